-- Written by a program of this work (wip/tools/xprint.py, which drives the kit's print over a whole seat). Not trusted: it is checked when it is built.
import Derived.Test.YtlnjfbnabjgffaaDoorXx0
import Derived.Test.YtlnjfbnabjgffaaDoorXx1
import Derived.Test.YtlnjfbnabjgffaaDoorXx6
import Derived.Test.YtlnjfbnabjgffaaDoorXx7
namespace Go.Proofs.YtlnjfbnabjgffaaDoor.X
open Go.RowKit Go.Proofs.YtlnjfbnabjgffaaDoorW.PrintWords Go.Proofs.YtlnjfbnabjgffaaDoorW.PrintLast Go.Proofs.YtlnjfbnabjgffaaDoorW.PrintMore
attribute [local go_sem] max2_int min2_int max_two min_two max_three min_three max_four min_four   -- for this text's walks alone
set_option linter.unusedVariables false
set_option linter.unusedSimpArgs false

theorem C_hold {α : Type} {d : Kd α} {A : Option Addr} {n : Nat} {xs : List α} {W w1 : World} {v : Value} (h : Kd.C d W A n xs) (hb : Below W.heap.size W w1) (hnew : ∃ b, v.ownBlock = some b ∧ W.heap.size ≤ b) : ∀ w2, w1.grownBy w2 v.ownBlock → Kd.C d w2 A n xs := fun w2 hg =>
  Kd.C_below h ⟨hg.os.trans hb.os, hg.tape.trans hb.tape, hg.output.trans hb.output, Nat.le_trans hb.size hg.size, fun k hk => (hg.block k (Nat.lt_of_lt_of_le hk hb.size) (fun e => by
    obtain ⟨b, e0, hle⟩ := hnew
    rw [e0] at e; injection e with e; omega)).trans (hb.block k hk)⟩
/-! ### spec_CrossedPoints: function 10 -/
mutual
def spec_CrossedPoints.l0 : Nat → List (List Int) → List (List Int) → List (List Int) → Int → Int → Option ((List (List Int)) × Bool)
  | 0, _, _, _, _, _ => none
  | k + 1, x6, x8, x27, x28, x29 => if x29 < x28 then (if 0 ≤ x29 then (if x29 < (x27.length : Int) then (spec_CrossedPoints.l1 k x6 x8 x29 (rd_L4 x27 x29) 0 true x27 x28 x29 x6 (x6.length : Int) 0) else (none)) else (none)) else (some (x8, true))
def spec_CrossedPoints.l1 : Nat → List (List Int) → List (List Int) → Int → List Int → Int → Bool → List (List Int) → Int → Int → List (List Int) → Int → Int → Option ((List (List Int)) × Bool)
  | 0, _, _, _, _, _, _, _, _, _, _, _, _ => none
  | k + 1, x6, x8, x9, x10, x11, x12, x27, x28, x29, x34, x35, x36 => if x36 < x35 then (if 0 ≤ x36 then (if x36 < (x34.length : Int) then ((spec_l1Same.f k x10 (rd_L4 x34 x36)).bind fun t194 => (if t194 = true then (if x12 = true then (spec_CrossedPoints.l1 k x6 x8 x9 x10 (wrap64 (x11 + 1)) (decide (x36 ≥ x9)) x27 x28 x29 x34 x35 (wrap64 (x36 + 1))) else (spec_CrossedPoints.l1 k x6 x8 x9 x10 (wrap64 (x11 + 1)) false x27 x28 x29 x34 x35 (wrap64 (x36 + 1)))) else (spec_CrossedPoints.l1 k x6 x8 x9 x10 x11 x12 x27 x28 x29 x34 x35 (wrap64 (x36 + 1))))) else (none)) else (none)) else (if x11 < 2 then (spec_CrossedPoints.j2 k x6 x8 x10 x27 x28 x29 true) else (spec_CrossedPoints.j2 k x6 x8 x10 x27 x28 x29 (!x12)))
def spec_CrossedPoints.j2 : Nat → List (List Int) → List (List Int) → List Int → List (List Int) → Int → Int → Bool → Option ((List (List Int)) × Bool)
  | 0, _, _, _, _, _, _, _ => none
  | k + 1, x6, x8, x10, x27, x28, x29, x58 => if x58 = true then (spec_CrossedPoints.l0 k x6 x8 x27 x28 (wrap64 (x29 + 1))) else (spec_CrossedPoints.l2 k x6 x8 x10 (x8.length : Int) x27 x28 x29)
def spec_CrossedPoints.l2 : Nat → List (List Int) → List (List Int) → List Int → Int → List (List Int) → Int → Int → Option ((List (List Int)) × Bool)
  | 0, _, _, _, _, _, _, _ => none
  | k + 1, x6, x8, x10, x15, x27, x28, x29 => if x15 > 0 then (if 0 < (x10.length : Int) then (if 0 ≤ (wrap64 (x15 - 1)) then (if (wrap64 (x15 - 1)) < (x8.length : Int) then (if 0 < ((rd_L4 x8 (wrap64 (x15 - 1))).length : Int) then (if (rd x10 0) < (rd (rd_L4 x8 (wrap64 (x15 - 1))) 0) then (spec_CrossedPoints.l2 k x6 x8 x10 (wrap64 (x15 - 1)) x27 x28 x29) else (if (rd x10 0) = (rd (rd_L4 x8 (wrap64 (x15 - 1))) 0) then (if 1 < (x10.length : Int) then (if 1 < ((rd_L4 x8 (wrap64 (x15 - 1))).length : Int) then (if (rd x10 1) < (rd (rd_L4 x8 (wrap64 (x15 - 1))) 1) then (spec_CrossedPoints.l2 k x6 x8 x10 (wrap64 (x15 - 1)) x27 x28 x29) else ((some (([] : List (List Int)) : List (List Int))).bind fun y204 => (if 0 ≤ x15 then (if x15 ≤ (x8.length : Int) then ((some (x8.take (x15 : Int).toNat : List (List Int))).bind fun y207 => (if y204.length + y207.length < 5864062014805 then ((some (y204 ++ y207 : List (List Int))).bind fun y212 => ((spec_l1Own.f x10).bind fun t215 => (if y212.length < 5864062014805 then ((some (y212 ++ [t215] : List (List Int))).bind fun y218 => ((some (x8.drop (x15 : Int).toNat : List (List Int))).bind fun y221 => (if y218.length + y221.length < 5864062014805 then (spec_CrossedPoints.l0 k x6 (y218 ++ y221) x27 x28 (wrap64 (x29 + 1))) else (none)))) else (none)))) else (none))) else (none)) else (none)))) else (none)) else (none)) else ((some (([] : List (List Int)) : List (List Int))).bind fun y229 => (if 0 ≤ x15 then (if x15 ≤ (x8.length : Int) then ((some (x8.take (x15 : Int).toNat : List (List Int))).bind fun y232 => (if y229.length + y232.length < 5864062014805 then ((some (y229 ++ y232 : List (List Int))).bind fun y237 => ((spec_l1Own.f x10).bind fun t240 => (if y237.length < 5864062014805 then ((some (y237 ++ [t240] : List (List Int))).bind fun y243 => ((some (x8.drop (x15 : Int).toNat : List (List Int))).bind fun y246 => (if y243.length + y246.length < 5864062014805 then (spec_CrossedPoints.l0 k x6 (y243 ++ y246) x27 x28 (wrap64 (x29 + 1))) else (none)))) else (none)))) else (none))) else (none)) else (none))))) else (none)) else (none)) else (none)) else (none)) else ((some (([] : List (List Int)) : List (List Int))).bind fun y254 => (if 0 ≤ x15 then (if x15 ≤ (x8.length : Int) then ((some (x8.take (x15 : Int).toNat : List (List Int))).bind fun y257 => (if y254.length + y257.length < 5864062014805 then ((some (y254 ++ y257 : List (List Int))).bind fun y262 => ((spec_l1Own.f x10).bind fun t265 => (if y262.length < 5864062014805 then ((some (y262 ++ [t265] : List (List Int))).bind fun y268 => ((some (x8.drop (x15 : Int).toNat : List (List Int))).bind fun y271 => (if y268.length + y271.length < 5864062014805 then (spec_CrossedPoints.l0 k x6 (y268 ++ y271) x27 x28 (wrap64 (x29 + 1))) else (none)))) else (none)))) else (none))) else (none)) else (none)))
end
def spec_CrossedPoints.f (k : Nat) (a0 : Int) (a1 : ByteArray) : Option ((List (List Int)) × Bool) := (spec_paAsked.f k a0 a1).bind fun t187 => (if t187 = true then ((spec_paPath.f k a0 a1).bind fun bt188 => (spec_CrossedPoints.l0 k bt188.1 ([] : List (List Int)) bt188.1 (bt188.1.length : Int) 0)) else (some (([] : List (List Int)), false)))
theorem spec_CrossedPoints.mono_l : ∀ k, (∀ y0 y1 y2 y3 y4, LeO (spec_CrossedPoints.l0 k y0 y1 y2 y3 y4) (spec_CrossedPoints.l0 (k + 1) y0 y1 y2 y3 y4)) ∧ (∀ y0 y1 y2 y3 y4 y5 y6 y7 y8 y9 y10 y11, LeO (spec_CrossedPoints.l1 k y0 y1 y2 y3 y4 y5 y6 y7 y8 y9 y10 y11) (spec_CrossedPoints.l1 (k + 1) y0 y1 y2 y3 y4 y5 y6 y7 y8 y9 y10 y11)) ∧ (∀ y0 y1 y2 y3 y4 y5 y6, LeO (spec_CrossedPoints.j2 k y0 y1 y2 y3 y4 y5 y6) (spec_CrossedPoints.j2 (k + 1) y0 y1 y2 y3 y4 y5 y6)) ∧ (∀ y0 y1 y2 y3 y4 y5 y6, LeO (spec_CrossedPoints.l2 k y0 y1 y2 y3 y4 y5 y6) (spec_CrossedPoints.l2 (k + 1) y0 y1 y2 y3 y4 y5 y6))
  | 0 => ⟨fun _ _ _ _ _ r h => by simp [spec_CrossedPoints.l0] at h, fun _ _ _ _ _ _ _ _ _ _ _ _ r h => by simp [spec_CrossedPoints.l1] at h, fun _ _ _ _ _ _ _ r h => by simp [spec_CrossedPoints.j2] at h, fun _ _ _ _ _ _ _ r h => by simp [spec_CrossedPoints.l2] at h⟩
  | k + 1 => by
    obtain ⟨ih0, ih1, ih2, ih3⟩ := spec_CrossedPoints.mono_l k
    refine ⟨?_, ?_, ?_, ?_⟩
    · intro y0 y1 y2 y3 y4
      unfold spec_CrossedPoints.l0
      repeat' first
      | (with_reducible exact ih0 _ _ _ _ _)
      | (with_reducible exact ih1 _ _ _ _ _ _ _ _ _ _ _ _)
      | (with_reducible exact ih2 _ _ _ _ _ _ _)
      | (with_reducible exact ih3 _ _ _ _ _ _ _)
      | (with_reducible exact spec_l1Same.mono _ _ _)
      | (with_reducible exact spec_paAsked.mono _ _ _)
      | (with_reducible exact spec_paPath.mono _ _ _)
      | (with_reducible exact LeO.refl _)
      | (with_reducible exact LeO.none _)
      | (with_reducible refine LeO.ite ?_ ?_)
      | (with_reducible refine LeO.bind ?_ (fun _ => ?_))
      | exact ih0 _ _ _ _ _
      | exact ih1 _ _ _ _ _ _ _ _ _ _ _ _
      | exact ih2 _ _ _ _ _ _ _
      | exact ih3 _ _ _ _ _ _ _
      | exact spec_l1Same.mono _ _ _
      | exact spec_paAsked.mono _ _ _
      | exact spec_paPath.mono _ _ _
      | exact LeO.none _
      | refine LeO.ite ?_ ?_
      | refine LeO.bind ?_ (fun _ => ?_)
    · intro y0 y1 y2 y3 y4 y5 y6 y7 y8 y9 y10 y11
      unfold spec_CrossedPoints.l1
      repeat' first
      | (with_reducible exact ih0 _ _ _ _ _)
      | (with_reducible exact ih1 _ _ _ _ _ _ _ _ _ _ _ _)
      | (with_reducible exact ih2 _ _ _ _ _ _ _)
      | (with_reducible exact ih3 _ _ _ _ _ _ _)
      | (with_reducible exact spec_l1Same.mono _ _ _)
      | (with_reducible exact spec_paAsked.mono _ _ _)
      | (with_reducible exact spec_paPath.mono _ _ _)
      | (with_reducible exact LeO.refl _)
      | (with_reducible exact LeO.none _)
      | (with_reducible refine LeO.ite ?_ ?_)
      | (with_reducible refine LeO.bind ?_ (fun _ => ?_))
      | exact ih0 _ _ _ _ _
      | exact ih1 _ _ _ _ _ _ _ _ _ _ _ _
      | exact ih2 _ _ _ _ _ _ _
      | exact ih3 _ _ _ _ _ _ _
      | exact spec_l1Same.mono _ _ _
      | exact spec_paAsked.mono _ _ _
      | exact spec_paPath.mono _ _ _
      | exact LeO.none _
      | refine LeO.ite ?_ ?_
      | refine LeO.bind ?_ (fun _ => ?_)
    · intro y0 y1 y2 y3 y4 y5 y6
      unfold spec_CrossedPoints.j2
      repeat' first
      | (with_reducible exact ih0 _ _ _ _ _)
      | (with_reducible exact ih1 _ _ _ _ _ _ _ _ _ _ _ _)
      | (with_reducible exact ih2 _ _ _ _ _ _ _)
      | (with_reducible exact ih3 _ _ _ _ _ _ _)
      | (with_reducible exact spec_l1Same.mono _ _ _)
      | (with_reducible exact spec_paAsked.mono _ _ _)
      | (with_reducible exact spec_paPath.mono _ _ _)
      | (with_reducible exact LeO.refl _)
      | (with_reducible exact LeO.none _)
      | (with_reducible refine LeO.ite ?_ ?_)
      | (with_reducible refine LeO.bind ?_ (fun _ => ?_))
      | exact ih0 _ _ _ _ _
      | exact ih1 _ _ _ _ _ _ _ _ _ _ _ _
      | exact ih2 _ _ _ _ _ _ _
      | exact ih3 _ _ _ _ _ _ _
      | exact spec_l1Same.mono _ _ _
      | exact spec_paAsked.mono _ _ _
      | exact spec_paPath.mono _ _ _
      | exact LeO.none _
      | refine LeO.ite ?_ ?_
      | refine LeO.bind ?_ (fun _ => ?_)
    · intro y0 y1 y2 y3 y4 y5 y6
      unfold spec_CrossedPoints.l2
      repeat' first
      | (with_reducible exact ih0 _ _ _ _ _)
      | (with_reducible exact ih1 _ _ _ _ _ _ _ _ _ _ _ _)
      | (with_reducible exact ih2 _ _ _ _ _ _ _)
      | (with_reducible exact ih3 _ _ _ _ _ _ _)
      | (with_reducible exact spec_l1Same.mono _ _ _)
      | (with_reducible exact spec_paAsked.mono _ _ _)
      | (with_reducible exact spec_paPath.mono _ _ _)
      | (with_reducible exact LeO.refl _)
      | (with_reducible exact LeO.none _)
      | (with_reducible refine LeO.ite ?_ ?_)
      | (with_reducible refine LeO.bind ?_ (fun _ => ?_))
      | exact ih0 _ _ _ _ _
      | exact ih1 _ _ _ _ _ _ _ _ _ _ _ _
      | exact ih2 _ _ _ _ _ _ _
      | exact ih3 _ _ _ _ _ _ _
      | exact spec_l1Same.mono _ _ _
      | exact spec_paAsked.mono _ _ _
      | exact spec_paPath.mono _ _ _
      | exact LeO.none _
      | refine LeO.ite ?_ ?_
      | refine LeO.bind ?_ (fun _ => ?_)
theorem spec_CrossedPoints.mono : ∀ a0 a1 k, LeO (spec_CrossedPoints.f k a0 a1) (spec_CrossedPoints.f (k + 1) a0 a1) := by
  intro a0 a1 k
  obtain ⟨ih0, ih1, ih2, ih3⟩ := spec_CrossedPoints.mono_l k
  unfold spec_CrossedPoints.f
  repeat' first
      | (with_reducible exact ih0 _ _ _ _ _)
      | (with_reducible exact ih1 _ _ _ _ _ _ _ _ _ _ _ _)
      | (with_reducible exact ih2 _ _ _ _ _ _ _)
      | (with_reducible exact ih3 _ _ _ _ _ _ _)
      | (with_reducible exact spec_l1Same.mono _ _ _)
      | (with_reducible exact spec_paAsked.mono _ _ _)
      | (with_reducible exact spec_paPath.mono _ _ _)
      | (with_reducible exact LeO.refl _)
      | (with_reducible exact LeO.none _)
      | (with_reducible refine LeO.ite ?_ ?_)
      | (with_reducible refine LeO.bind ?_ (fun _ => ?_))
      | exact ih0 _ _ _ _ _
      | exact ih1 _ _ _ _ _ _ _ _ _ _ _ _
      | exact ih2 _ _ _ _ _ _ _
      | exact ih3 _ _ _ _ _ _ _
      | exact spec_l1Same.mono _ _ _
      | exact spec_paAsked.mono _ _ _
      | exact spec_paPath.mono _ _ _
      | exact LeO.none _
      | refine LeO.ite ?_ ?_
      | refine LeO.bind ?_ (fun _ => ?_)
set_option maxHeartbeats 8000000 in
set_option maxRecDepth 100000 in
theorem spec_CrossedPoints.calls (k : Nat) (a0 : Int) (a1 : ByteArray) (r1 : List (List Int)) (r2 : Bool) (w : World) (h : spec_CrossedPoints.f k a0 a1 = some (r1, r2)) :
    Calls Tryd.prog 10 #[.int .i64 a0, .string a1] w fun e w' => ∃ v0_ : Value, e = .returned (.tuple #[v0_, .bool r2]) ∧ Kd.N (Kd.slice 3 (Kd.int .i64)) 36 w' w.heap.size (fun k_ => (w.heap.size ≤ k_)) v0_ r1 ∧ Below w.heap.size w w' := by
  have HB := Aside0.mk (Below.refl w.heap.size w)
  have H : ((spec_paAsked.f k a0 a1).bind fun t187 => (if t187 = true then ((spec_paPath.f k a0 a1).bind fun bt188 => (spec_CrossedPoints.l0 k bt188.1 ([] : List (List Int)) bt188.1 (bt188.1.length : Int) 0)) else (some (([] : List (List Int)), false)))) = some (r1, r2) := h
  clear h
  replace H := Option.bind_eq_some_iff.mp H
  obtain ⟨t187, A30, H⟩ := H
  replace H : (if t187 = true then ((spec_paPath.f k a0 a1).bind fun bt188 => (spec_CrossedPoints.l0 k bt188.1 ([] : List (List Int)) bt188.1 (bt188.1.length : Int) 0)) else (some (([] : List (List Int)), false))) = some (r1, r2) := H
  have A3 := Aside0.mk A30
  clear A30
  by_cases c4 : t187 = true
  · subst c4
    have H1 : ((spec_paPath.f k a0 a1).bind fun bt188 => (spec_CrossedPoints.l0 k bt188.1 ([] : List (List Int)) bt188.1 (bt188.1.length : Int) 0)) = some (r1, r2) := by rw [if_pos rfl] at H; exact H
    clear H
    have H := H1
    clear H1
    replace H := Option.bind_eq_some_iff.mp H
    obtain ⟨⟨t188, t189⟩, A50, H⟩ := H
    replace H : (spec_CrossedPoints.l0 k t188 ([] : List (List Int)) t188 (t188.length : Int) 0) = some (r1, r2) := H
    have A5 := Aside0.mk A50
    clear A50
    have H' := Aside0.mk H
    clear H
    go_enter Tryd.func10, Tryd.ntmps10
    go_wp2_with (first | (go_at_call 15; (with_reducible refine (spec_paAsked.calls k a0 a1 true _ A3.out).mono ?_); rintro e w' ⟨rfl, ⟨nd, rfl⟩⟩; (try first | exact ⟨rfl, _, World.drewN_drewN _ _ _⟩ | exact ⟨rfl, _, Eq.trans (World.drewN_drewN _ _ _) (congrArg (World.drewN _) (Nat.add_assoc _ _ _))⟩)) | (go_at_call 20; (with_reducible refine (spec_paPath.calls k a0 a1 t188 t189 _ A5.out).mono ?_); rintro e w6 ⟨v190, rfl, ho0, hb⟩; have n0_ := Aside0.mk (Kd.N_lower (Kd.N_mono (ok' := fun k_ => (w.heap.size ≤ k_)) (Kd.S_N (Kd.S_bound ho0)) (fun k_ hk_ => (Nat.le_trans (below_size (by repeat (first | (with_reducible first | exact HB.out | apply below_alloc | apply pw_below_drewN | apply below_drew1) | exact HB.out))) hk_.2.1))) (below_size (by repeat (first | (with_reducible first | exact HB.out | apply below_alloc | apply pw_below_drewN | apply below_drew1) | exact HB.out)))); have n1_ := Aside0.mk (below_step (by repeat (first | (with_reducible first | exact HB.out | apply below_alloc | apply pw_below_drewN | apply below_drew1) | exact HB.out)) hb); clear HB; have HO191 := n0_; have HB := n1_; clear n0_ n1_; (try clear hb); (try clear hb2); (try clear hk); (try clear hi); (try clear ho0); obtain ⟨Ao7, co7, eo7⟩ := Kd.N_slice HO191.out; subst eo7))
    repeat (go_quiet (first | (go_at_call 15; (with_reducible refine (spec_paAsked.calls k a0 a1 true _ A3.out).mono ?_); rintro e w' ⟨rfl, ⟨nd, rfl⟩⟩; (try first | exact ⟨rfl, _, World.drewN_drewN _ _ _⟩ | exact ⟨rfl, _, Eq.trans (World.drewN_drewN _ _ _) (congrArg (World.drewN _) (Nat.add_assoc _ _ _))⟩)) | (go_at_call 20; (with_reducible refine (spec_paPath.calls k a0 a1 t188 t189 _ A5.out).mono ?_); rintro e w6 ⟨v190, rfl, ho0, hb⟩; have n0_ := Aside0.mk (Kd.N_lower (Kd.N_mono (ok' := fun k_ => (w.heap.size ≤ k_)) (Kd.S_N (Kd.S_bound ho0)) (fun k_ hk_ => (Nat.le_trans (below_size (by repeat (first | (with_reducible first | exact HB.out | apply below_alloc | apply pw_below_drewN | apply below_drew1) | exact HB.out))) hk_.2.1))) (below_size (by repeat (first | (with_reducible first | exact HB.out | apply below_alloc | apply pw_below_drewN | apply below_drew1) | exact HB.out)))); have n1_ := Aside0.mk (below_step (by repeat (first | (with_reducible first | exact HB.out | apply below_alloc | apply pw_below_drewN | apply below_drew1) | exact HB.out)) hb); clear HB; have HO191 := n0_; have HB := n1_; clear n0_ n1_; (try clear hb); (try clear hb2); (try clear hk); (try clear hi); (try clear ho0); obtain ⟨Ao7, co7, eo7⟩ := Kd.N_slice HO191.out; subst eo7)); try go_wp2_with (first | (go_at_call 15; (with_reducible refine (spec_paAsked.calls k a0 a1 true _ A3.out).mono ?_); rintro e w' ⟨rfl, ⟨nd, rfl⟩⟩; (try first | exact ⟨rfl, _, World.drewN_drewN _ _ _⟩ | exact ⟨rfl, _, Eq.trans (World.drewN_drewN _ _ _) (congrArg (World.drewN _) (Nat.add_assoc _ _ _))⟩)) | (go_at_call 20; (with_reducible refine (spec_paPath.calls k a0 a1 t188 t189 _ A5.out).mono ?_); rintro e w6 ⟨v190, rfl, ho0, hb⟩; have n0_ := Aside0.mk (Kd.N_lower (Kd.N_mono (ok' := fun k_ => (w.heap.size ≤ k_)) (Kd.S_N (Kd.S_bound ho0)) (fun k_ hk_ => (Nat.le_trans (below_size (by repeat (first | (with_reducible first | exact HB.out | apply below_alloc | apply pw_below_drewN | apply below_drew1) | exact HB.out))) hk_.2.1))) (below_size (by repeat (first | (with_reducible first | exact HB.out | apply below_alloc | apply pw_below_drewN | apply below_drew1) | exact HB.out)))); have n1_ := Aside0.mk (below_step (by repeat (first | (with_reducible first | exact HB.out | apply below_alloc | apply pw_below_drewN | apply below_drew1) | exact HB.out)) hb); clear HB; have HO191 := n0_; have HB := n1_; clear n0_ n1_; (try clear hb); (try clear hb2); (try clear hk); (try clear hi); (try clear ho0); obtain ⟨Ao7, co7, eo7⟩ := Kd.N_slice HO191.out; subst eo7)))
    go_loopg [8, 29] k (fun kq v8 v29 w' => ∃ (x8_1 : List (List Int)) (x29_1 : Int), v29 = .int .i64 x29_1 ∧ Aside0 (spec_CrossedPoints.l0 kq t188 x8_1 t188 (t188.length : Int) x29_1 = some (r1, r2)) ∧ Aside0 (kq ≤ k) ∧ Aside0 (Kd.N (Kd.slice 3 (Kd.int .i64)) 36 w' w.heap.size (fun k_ => (w.heap.size ≤ k_) ∧ some k_ ≠ (v8 : Value).ownBlock) (.slice Ao7 t188.length co7) t188) ∧ Aside0 (Kd.N (Kd.slice 3 (Kd.int .i64)) 36 w' w.heap.size (fun k_ => (w.heap.size ≤ k_) ∧ some k_ ≠ ((.slice Ao7 t188.length co7) : Value).ownBlock ∧ some k_ ≠ ((.slice Ao7 t188.length co7) : Value).ownBlock) v8 x8_1) ∧ Aside0 (Kd.N (Kd.slice 3 (Kd.int .i64)) 36 w' w.heap.size (fun k_ => (w.heap.size ≤ k_) ∧ some k_ ≠ (v8 : Value).ownBlock) (.slice Ao7 t188.length co7) t188) ∧ Aside0 (Below w.heap.size w w'))
    case atStart => exact ⟨(([] : List (List Int))), (0), (by first | rfl | (simp; done) | (simp [*]; done)), H', ⟨Nat.le_refl _⟩, ⟨by (with_reducible repeat (first | apply Kd.N_alloc | apply Kd.N_drewN | apply Kd.N_drew)); exact Kd.N_mono HO191.out (fun _ hk => ⟨hk, (by simp [Value.ownBlock])⟩)⟩, ⟨by first | exact Kd.S_nil _ _ _ _ _ | exact Kd.N_nil _ _ _ _ _ | exact Kd.V_nil _ _ _ _ _ | exact Kd.Q_nil _ _ _ _ _ | exact Kd.R_nil _ _ _ _ _⟩, ⟨by (with_reducible repeat (first | apply Kd.N_alloc | apply Kd.N_drewN | apply Kd.N_drew)); exact Kd.N_mono HO191.out (fun _ hk => ⟨hk, (by simp [Value.ownBlock])⟩)⟩, ⟨by repeat (first | (with_reducible first | exact HB.out | apply below_alloc | apply pw_below_drewN | apply below_drew1) | exact HB.out)⟩⟩
    case round =>
      clear H'
      try clear c1
      try clear p2
      try clear c4
      obtain ⟨x8_1, x29_1, rfl, HA, HK1, HO_6, HO_8, HO_27, HB⟩ := hrel
      cases gk with
      | zero => exact absurd HA.out (by simp [spec_CrossedPoints.l0])
      | succ k1 =>
        have H := HA.out
        clear HA
        simp only [spec_CrossedPoints.l0] at H
        by_cases c8 : x29_1 < (t188.length : Int)
        · rw [if_pos c8] at H
          have c8b0 : decide (x29_1 < (t188.length : Int)) = true := decide_eq_true c8
          clear c8
          by_cases c9 : 0 ≤ x29_1
          · rw [if_pos c9] at H
            have c9b0 : decide (0 ≤ x29_1) = true := decide_eq_true c9
            clear c9
            by_cases c10 : x29_1 < (t188.length : Int)
            · rw [if_pos c10] at H
              have c10b0 : decide (x29_1 < (t188.length : Int)) = true := decide_eq_true c10
              clear c10
              have H' := Aside0.mk H
              clear H
              have p192 : 0 ≤ (x29_1 : Int) := of_decide_eq_true (by first | (with_reducible assumption) | assumption)
              have q192 : x29_1 < (t188.length : Int) := of_decide_eq_true (by first | (with_reducible assumption) | assumption)
              obtain ⟨ad192, A192_0, c192_0, e192, hx192_0, hl192_0, hi192_0⟩ := at_L4 (Kd.N_reads' HO_27.out).2.2 x29_1 p192 q192
              cases e192
              obtain ⟨ce192, hce192, hMe192, hcc192⟩ := Kd.N_get HO_27.out [] x29_1 p192 (by first | exact q192 | exact of_decide_eq_true (by first | (with_reducible assumption) | assumption) | (have e_ := (Kd.N_reads' HO_27.out).1; omega))
              obtain ⟨ua192_0, uc192_0, rfl, ul192_0, ge192_0⟩ := Kd.FK_slice_open hMe192
              have hv192_0 := hcc192 0 _ rfl
              rw [Nat.add_zero, show ((Kd.slice 3 (Kd.int .i64))).sz = 1 from rfl, Nat.mul_one] at hv192_0
              replace hv192_0 := Option.some.inj (hv192_0.symm.trans hx192_0)
              injection hv192_0 with hva_ hvn_ hvc_
              rw [hva_] at ge192_0
              rw [hvc_] at ul192_0
              have HL192_0 := Aside0.mk (show Kd.V (Kd.int .i64) 3 _ w.heap.size _ _ (rd_L4 t188 x29_1) from Kd.V_mk ul192_0 ge192_0)
              clear hva_ hvn_ hvc_ ge192_0 ul192_0
              clear hcc192 hce192
              have HR192_0 := Aside0.mk hi192_0
              have HC192_0 := Aside0.mk hl192_0
              clear hi192_0 hl192_0
              replace p192 := eq_true p192
              replace q192 := eq_true q192
              go_wp2
              repeat (go_quiet (fail); try go_wp2)
              go_loopg [11, 12, 36] k1 (fun kq v11 v12 v36 w' => ∃ (x11_2 : Int) (x12_2 : Bool) (x36_2 : Int), v11 = .int .i64 x11_2 ∧ v12 = .bool x12_2 ∧ v36 = .int .i64 x36_2 ∧ Aside0 (spec_CrossedPoints.l1 kq t188 x8_1 x29_1 (rd_L4 t188 x29_1) x11_2 x12_2 t188 (t188.length : Int) x29_1 t188 (t188.length : Int) x36_2 = some (r1, r2)) ∧ Aside0 (kq ≤ k1) ∧ Aside0 (Kd.N (Kd.slice 3 (Kd.int .i64)) 36 w' w.heap.size (fun k_ => (w.heap.size ≤ k_) ∧ some k_ ≠ (u8 : Value).ownBlock) (.slice (some ad192) t188.length co7) t188) ∧ Aside0 (Kd.N (Kd.slice 3 (Kd.int .i64)) 36 w' w.heap.size (fun k_ => (w.heap.size ≤ k_) ∧ some k_ ≠ ((.slice (some ad192) t188.length co7) : Value).ownBlock ∧ some k_ ≠ ((.slice (some ad192) t188.length co7) : Value).ownBlock ∧ some k_ ≠ ((.slice (some ad192) t188.length co7) : Value).ownBlock) u8 x8_1) ∧ Aside0 (Kd.N (Kd.slice 3 (Kd.int .i64)) 36 w' w.heap.size (fun k_ => (w.heap.size ≤ k_) ∧ some k_ ≠ (u8 : Value).ownBlock) (.slice (some ad192) t188.length co7) t188) ∧ Aside0 (Kd.N (Kd.slice 3 (Kd.int .i64)) 36 w' w.heap.size (fun k_ => (w.heap.size ≤ k_) ∧ some k_ ≠ (u8 : Value).ownBlock) (.slice (some ad192) t188.length co7) t188) ∧ Aside0 (Kd.C (Kd.int .i64) w' A192_0 (rd_L4 t188 x29_1).length (rd_L4 t188 x29_1)) ∧ Aside0 (Below w.heap.size w w'))
              case atStart => exact ⟨(0), (true), (0), (by first | rfl | (simp; done) | (simp [*]; done)), (by first | rfl | (simp; done) | (simp [*]; done)), (by first | rfl | (simp; done) | (simp [*]; done)), H', ⟨Nat.le_refl _⟩, ⟨by (with_reducible repeat (first | apply Kd.N_alloc | apply Kd.N_drewN | apply Kd.N_drew)); exact HO_6.out⟩, ⟨by (with_reducible repeat (first | apply Kd.N_alloc | apply Kd.N_drewN | apply Kd.N_drew)); exact Kd.N_mono HO_8.out (fun _ hk => ⟨hk.1, ⟨hk.2.1, ⟨hk.2.2, hk.2.1⟩⟩⟩)⟩, ⟨by (with_reducible repeat (first | apply Kd.N_alloc | apply Kd.N_drewN | apply Kd.N_drew)); exact HO_27.out⟩, ⟨by (with_reducible repeat (first | apply Kd.N_alloc | apply Kd.N_drewN | apply Kd.N_drew)); exact HO_6.out⟩, ⟨by repeat (first | (with_reducible exact HR192_0.out) | (with_reducible refine Kd.C_alloc ?_ _) | (with_reducible refine Kd.C_drewN ?_ _) | (with_reducible refine Kd.C_drew ?_) | exact HR192_0.out)⟩, ⟨by repeat (first | (with_reducible first | exact HB.out | apply below_alloc | apply pw_below_drewN | apply below_drew1) | exact HB.out)⟩⟩
              case round =>
                clear H'
                try clear c1
                try clear p1
                try clear q1
                try clear hx1
                try clear p2
                try clear c4
                try clear c8
                try clear c8b0
                try clear c9
                try clear c9b0
                try clear c10
                try clear c10b0
                try clear hx192_0
                try clear p192
                try clear p2
                try clear q192
                obtain ⟨x11_2, x12_2, x36_2, rfl, rfl, rfl, HA, HK2, HO_6, HO_8, HO_27, HO_34, HR192_0, HB⟩ := hrel
                cases gk with
                | zero => exact absurd HA.out (by simp [spec_CrossedPoints.l1])
                | succ k2 =>
                  have H := HA.out
                  clear HA
                  simp only [spec_CrossedPoints.l1] at H
                  by_cases c11 : x36_2 < (t188.length : Int)
                  · rw [if_pos c11] at H
                    have c11b0 : decide (x36_2 < (t188.length : Int)) = true := decide_eq_true c11
                    clear c11
                    by_cases c12 : 0 ≤ x36_2
                    · rw [if_pos c12] at H
                      have c12b0 : decide (0 ≤ x36_2) = true := decide_eq_true c12
                      clear c12
                      by_cases c13 : x36_2 < (t188.length : Int)
                      · rw [if_pos c13] at H
                        have c13b0 : decide (x36_2 < (t188.length : Int)) = true := decide_eq_true c13
                        clear c13
                        replace H := Option.bind_eq_some_iff.mp H
                        obtain ⟨t194, A140, H⟩ := H
                        replace H : (if t194 = true then (if x12_2 = true then (spec_CrossedPoints.l1 k2 t188 x8_1 x29_1 (rd_L4 t188 x29_1) (wrap64 (x11_2 + 1)) (decide (x36_2 ≥ x29_1)) t188 (t188.length : Int) x29_1 t188 (t188.length : Int) (wrap64 (x36_2 + 1))) else (spec_CrossedPoints.l1 k2 t188 x8_1 x29_1 (rd_L4 t188 x29_1) (wrap64 (x11_2 + 1)) false t188 (t188.length : Int) x29_1 t188 (t188.length : Int) (wrap64 (x36_2 + 1)))) else (spec_CrossedPoints.l1 k2 t188 x8_1 x29_1 (rd_L4 t188 x29_1) x11_2 x12_2 t188 (t188.length : Int) x29_1 t188 (t188.length : Int) (wrap64 (x36_2 + 1)))) = some (r1, r2) := H
                        have A14 := Aside0.mk A140
                        clear A140
                        by_cases c15 : t194 = true
                        · subst c15
                          have H1 : (if x12_2 = true then (spec_CrossedPoints.l1 k2 t188 x8_1 x29_1 (rd_L4 t188 x29_1) (wrap64 (x11_2 + 1)) (decide (x36_2 ≥ x29_1)) t188 (t188.length : Int) x29_1 t188 (t188.length : Int) (wrap64 (x36_2 + 1))) else (spec_CrossedPoints.l1 k2 t188 x8_1 x29_1 (rd_L4 t188 x29_1) (wrap64 (x11_2 + 1)) false t188 (t188.length : Int) x29_1 t188 (t188.length : Int) (wrap64 (x36_2 + 1)))) = some (r1, r2) := by rw [if_pos rfl] at H; exact H
                          clear H
                          have H := H1
                          clear H1
                          by_cases c16 : x12_2 = true
                          · subst c16
                            have H1 : (spec_CrossedPoints.l1 k2 t188 x8_1 x29_1 (rd_L4 t188 x29_1) (wrap64 (x11_2 + 1)) (decide (x36_2 ≥ x29_1)) t188 (t188.length : Int) x29_1 t188 (t188.length : Int) (wrap64 (x36_2 + 1))) = some (r1, r2) := by rw [if_pos rfl] at H; exact H
                            clear H
                            have H := H1
                            clear H1
                            have H' := Aside0.mk H
                            clear H
                            have p193 : 0 ≤ (x36_2 : Int) := of_decide_eq_true (by first | (with_reducible assumption) | assumption)
                            have q193 : x36_2 < (t188.length : Int) := of_decide_eq_true (by first | (with_reducible assumption) | assumption)
                            obtain ⟨ad193, A193_0, c193_0, e193, hx193_0, hl193_0, hi193_0⟩ := at_L4 (Kd.N_reads' HO_34.out).2.2 x36_2 p193 q193
                            obtain rfl : ad192 = ad193 := (by injection e193)
                            obtain ⟨ce193, hce193, hMe193, hcc193⟩ := Kd.N_get HO_34.out [] x36_2 p193 (by first | exact q193 | exact of_decide_eq_true (by first | (with_reducible assumption) | assumption) | (have e_ := (Kd.N_reads' HO_34.out).1; omega))
                            obtain ⟨ua193_0, uc193_0, rfl, ul193_0, ge193_0⟩ := Kd.FK_slice_open hMe193
                            have hv193_0 := hcc193 0 _ rfl
                            rw [Nat.add_zero, show ((Kd.slice 3 (Kd.int .i64))).sz = 1 from rfl, Nat.mul_one] at hv193_0
                            replace hv193_0 := Option.some.inj (hv193_0.symm.trans hx193_0)
                            injection hv193_0 with hva_ hvn_ hvc_
                            rw [hva_] at ge193_0
                            rw [hvc_] at ul193_0
                            have HL193_0 := Aside0.mk (show Kd.V (Kd.int .i64) 3 _ w.heap.size _ _ (rd_L4 t188 x36_2) from Kd.V_mk ul193_0 ge193_0)
                            clear hva_ hvn_ hvc_ ge193_0 ul193_0
                            clear hcc193 hce193
                            have HR193_0 := Aside0.mk hi193_0
                            have HC193_0 := Aside0.mk hl193_0
                            clear hi193_0 hl193_0
                            replace p193 := eq_true p193
                            replace q193 := eq_true q193
                            go_wp2_with (first | (go_at_call 21; (with_reducible refine (spec_l1Same.calls k2 _ _ (rd_L4 t188 x29_1) _ _ (rd_L4 t188 x36_2) true _ ?side1 ?side2 ?side3 ?side4 A14.out).mono ?_); (case side1 => repeat (first | exact HR192_0.out | (with_reducible refine Kd.C_alloc ?_ _) | (with_reducible refine Kd.C_drewN ?_ _) | (with_reducible refine Kd.C_drew ?_))); (case side2 => exact HC192_0.out); (case side3 => repeat (first | exact (by repeat (first | (with_reducible exact HR193_0.out) | (with_reducible refine Kd.C_alloc ?_ _) | (with_reducible refine Kd.C_drewN ?_ _) | (with_reducible refine Kd.C_drew ?_) | exact HR193_0.out)) | (with_reducible refine Kd.C_alloc ?_ _) | (with_reducible refine Kd.C_drewN ?_ _) | (with_reducible refine Kd.C_drew ?_))); (case side4 => exact HC193_0.out); rintro e w' ⟨rfl, ⟨nd, rfl⟩⟩; (try first | exact ⟨rfl, _, World.drewN_drewN _ _ _⟩ | exact ⟨rfl, _, Eq.trans (World.drewN_drewN _ _ _) (congrArg (World.drewN _) (Nat.add_assoc _ _ _))⟩)))
                            repeat (go_quiet (first | (go_at_call 21; (with_reducible refine (spec_l1Same.calls k2 _ _ (rd_L4 t188 x29_1) _ _ (rd_L4 t188 x36_2) true _ ?side1 ?side2 ?side3 ?side4 A14.out).mono ?_); (case side1 => repeat (first | exact HR192_0.out | (with_reducible refine Kd.C_alloc ?_ _) | (with_reducible refine Kd.C_drewN ?_ _) | (with_reducible refine Kd.C_drew ?_))); (case side2 => exact HC192_0.out); (case side3 => repeat (first | exact (by repeat (first | (with_reducible exact HR193_0.out) | (with_reducible refine Kd.C_alloc ?_ _) | (with_reducible refine Kd.C_drewN ?_ _) | (with_reducible refine Kd.C_drew ?_) | exact HR193_0.out)) | (with_reducible refine Kd.C_alloc ?_ _) | (with_reducible refine Kd.C_drewN ?_ _) | (with_reducible refine Kd.C_drew ?_))); (case side4 => exact HC193_0.out); rintro e w' ⟨rfl, ⟨nd, rfl⟩⟩; (try first | exact ⟨rfl, _, World.drewN_drewN _ _ _⟩ | exact ⟨rfl, _, Eq.trans (World.drewN_drewN _ _ _) (congrArg (World.drewN _) (Nat.add_assoc _ _ _))⟩))); try go_wp2_with (first | (go_at_call 21; (with_reducible refine (spec_l1Same.calls k2 _ _ (rd_L4 t188 x29_1) _ _ (rd_L4 t188 x36_2) true _ ?side1 ?side2 ?side3 ?side4 A14.out).mono ?_); (case side1 => repeat (first | exact HR192_0.out | (with_reducible refine Kd.C_alloc ?_ _) | (with_reducible refine Kd.C_drewN ?_ _) | (with_reducible refine Kd.C_drew ?_))); (case side2 => exact HC192_0.out); (case side3 => repeat (first | exact (by repeat (first | (with_reducible exact HR193_0.out) | (with_reducible refine Kd.C_alloc ?_ _) | (with_reducible refine Kd.C_drewN ?_ _) | (with_reducible refine Kd.C_drew ?_) | exact HR193_0.out)) | (with_reducible refine Kd.C_alloc ?_ _) | (with_reducible refine Kd.C_drewN ?_ _) | (with_reducible refine Kd.C_drew ?_))); (case side4 => exact HC193_0.out); rintro e w' ⟨rfl, ⟨nd, rfl⟩⟩; (try first | exact ⟨rfl, _, World.drewN_drewN _ _ _⟩ | exact ⟨rfl, _, Eq.trans (World.drewN_drewN _ _ _) (congrArg (World.drewN _) (Nat.add_assoc _ _ _))⟩))))
                            go_roundg k2
                            case measure => have := HK1.out; have := HK2.out; omega
                            case rel => exact ⟨(wrap64 (x11_2 + 1)), (decide (x36_2 ≥ x29_1)), (wrap64 (x36_2 + 1)), (by first | rfl | (simp; done) | (simp [*]; done)), (by first | rfl | (simp; done) | (simp [*]; done)), (by first | rfl | (simp; done) | (simp [*]; done)), H', ⟨by have := HK1.out; have := HK2.out; omega⟩, ⟨by (with_reducible repeat (first | apply Kd.N_alloc | apply Kd.N_drewN | apply Kd.N_drew)); exact HO_6.out⟩, ⟨by (with_reducible repeat (first | apply Kd.N_alloc | apply Kd.N_drewN | apply Kd.N_drew)); exact HO_8.out⟩, ⟨by (with_reducible repeat (first | apply Kd.N_alloc | apply Kd.N_drewN | apply Kd.N_drew)); exact HO_27.out⟩, ⟨by (with_reducible repeat (first | apply Kd.N_alloc | apply Kd.N_drewN | apply Kd.N_drew)); exact HO_34.out⟩, ⟨by repeat (first | (with_reducible exact HR192_0.out) | (with_reducible refine Kd.C_alloc ?_ _) | (with_reducible refine Kd.C_drewN ?_ _) | (with_reducible refine Kd.C_drew ?_) | exact HR192_0.out)⟩, ⟨by repeat (first | (with_reducible first | exact HB.out | apply below_alloc | apply pw_below_drewN | apply below_drew1) | exact HB.out)⟩⟩
                          · replace c16 := Bool.eq_false_iff.mpr c16
                            subst c16
                            have H1 : (spec_CrossedPoints.l1 k2 t188 x8_1 x29_1 (rd_L4 t188 x29_1) (wrap64 (x11_2 + 1)) false t188 (t188.length : Int) x29_1 t188 (t188.length : Int) (wrap64 (x36_2 + 1))) = some (r1, r2) := by rw [if_neg (show ¬ (false = true) by decide)] at H; exact H
                            clear H
                            have H := H1
                            clear H1
                            have H' := Aside0.mk H
                            clear H
                            have p193 : 0 ≤ (x36_2 : Int) := of_decide_eq_true (by first | (with_reducible assumption) | assumption)
                            have q193 : x36_2 < (t188.length : Int) := of_decide_eq_true (by first | (with_reducible assumption) | assumption)
                            obtain ⟨ad193, A193_0, c193_0, e193, hx193_0, hl193_0, hi193_0⟩ := at_L4 (Kd.N_reads' HO_34.out).2.2 x36_2 p193 q193
                            obtain rfl : ad192 = ad193 := (by injection e193)
                            obtain ⟨ce193, hce193, hMe193, hcc193⟩ := Kd.N_get HO_34.out [] x36_2 p193 (by first | exact q193 | exact of_decide_eq_true (by first | (with_reducible assumption) | assumption) | (have e_ := (Kd.N_reads' HO_34.out).1; omega))
                            obtain ⟨ua193_0, uc193_0, rfl, ul193_0, ge193_0⟩ := Kd.FK_slice_open hMe193
                            have hv193_0 := hcc193 0 _ rfl
                            rw [Nat.add_zero, show ((Kd.slice 3 (Kd.int .i64))).sz = 1 from rfl, Nat.mul_one] at hv193_0
                            replace hv193_0 := Option.some.inj (hv193_0.symm.trans hx193_0)
                            injection hv193_0 with hva_ hvn_ hvc_
                            rw [hva_] at ge193_0
                            rw [hvc_] at ul193_0
                            have HL193_0 := Aside0.mk (show Kd.V (Kd.int .i64) 3 _ w.heap.size _ _ (rd_L4 t188 x36_2) from Kd.V_mk ul193_0 ge193_0)
                            clear hva_ hvn_ hvc_ ge193_0 ul193_0
                            clear hcc193 hce193
                            have HR193_0 := Aside0.mk hi193_0
                            have HC193_0 := Aside0.mk hl193_0
                            clear hi193_0 hl193_0
                            replace p193 := eq_true p193
                            replace q193 := eq_true q193
                            go_wp2_with (first | (go_at_call 21; (with_reducible refine (spec_l1Same.calls k2 _ _ (rd_L4 t188 x29_1) _ _ (rd_L4 t188 x36_2) true _ ?side1 ?side2 ?side3 ?side4 A14.out).mono ?_); (case side1 => repeat (first | exact HR192_0.out | (with_reducible refine Kd.C_alloc ?_ _) | (with_reducible refine Kd.C_drewN ?_ _) | (with_reducible refine Kd.C_drew ?_))); (case side2 => exact HC192_0.out); (case side3 => repeat (first | exact (by repeat (first | (with_reducible exact HR193_0.out) | (with_reducible refine Kd.C_alloc ?_ _) | (with_reducible refine Kd.C_drewN ?_ _) | (with_reducible refine Kd.C_drew ?_) | exact HR193_0.out)) | (with_reducible refine Kd.C_alloc ?_ _) | (with_reducible refine Kd.C_drewN ?_ _) | (with_reducible refine Kd.C_drew ?_))); (case side4 => exact HC193_0.out); rintro e w' ⟨rfl, ⟨nd, rfl⟩⟩; (try first | exact ⟨rfl, _, World.drewN_drewN _ _ _⟩ | exact ⟨rfl, _, Eq.trans (World.drewN_drewN _ _ _) (congrArg (World.drewN _) (Nat.add_assoc _ _ _))⟩)))
                            repeat (go_quiet (first | (go_at_call 21; (with_reducible refine (spec_l1Same.calls k2 _ _ (rd_L4 t188 x29_1) _ _ (rd_L4 t188 x36_2) true _ ?side1 ?side2 ?side3 ?side4 A14.out).mono ?_); (case side1 => repeat (first | exact HR192_0.out | (with_reducible refine Kd.C_alloc ?_ _) | (with_reducible refine Kd.C_drewN ?_ _) | (with_reducible refine Kd.C_drew ?_))); (case side2 => exact HC192_0.out); (case side3 => repeat (first | exact (by repeat (first | (with_reducible exact HR193_0.out) | (with_reducible refine Kd.C_alloc ?_ _) | (with_reducible refine Kd.C_drewN ?_ _) | (with_reducible refine Kd.C_drew ?_) | exact HR193_0.out)) | (with_reducible refine Kd.C_alloc ?_ _) | (with_reducible refine Kd.C_drewN ?_ _) | (with_reducible refine Kd.C_drew ?_))); (case side4 => exact HC193_0.out); rintro e w' ⟨rfl, ⟨nd, rfl⟩⟩; (try first | exact ⟨rfl, _, World.drewN_drewN _ _ _⟩ | exact ⟨rfl, _, Eq.trans (World.drewN_drewN _ _ _) (congrArg (World.drewN _) (Nat.add_assoc _ _ _))⟩))); try go_wp2_with (first | (go_at_call 21; (with_reducible refine (spec_l1Same.calls k2 _ _ (rd_L4 t188 x29_1) _ _ (rd_L4 t188 x36_2) true _ ?side1 ?side2 ?side3 ?side4 A14.out).mono ?_); (case side1 => repeat (first | exact HR192_0.out | (with_reducible refine Kd.C_alloc ?_ _) | (with_reducible refine Kd.C_drewN ?_ _) | (with_reducible refine Kd.C_drew ?_))); (case side2 => exact HC192_0.out); (case side3 => repeat (first | exact (by repeat (first | (with_reducible exact HR193_0.out) | (with_reducible refine Kd.C_alloc ?_ _) | (with_reducible refine Kd.C_drewN ?_ _) | (with_reducible refine Kd.C_drew ?_) | exact HR193_0.out)) | (with_reducible refine Kd.C_alloc ?_ _) | (with_reducible refine Kd.C_drewN ?_ _) | (with_reducible refine Kd.C_drew ?_))); (case side4 => exact HC193_0.out); rintro e w' ⟨rfl, ⟨nd, rfl⟩⟩; (try first | exact ⟨rfl, _, World.drewN_drewN _ _ _⟩ | exact ⟨rfl, _, Eq.trans (World.drewN_drewN _ _ _) (congrArg (World.drewN _) (Nat.add_assoc _ _ _))⟩))))
                            go_roundg k2
                            case measure => have := HK1.out; have := HK2.out; omega
                            case rel => exact ⟨(wrap64 (x11_2 + 1)), (false), (wrap64 (x36_2 + 1)), (by first | rfl | (simp; done) | (simp [*]; done)), (by first | rfl | (simp; done) | (simp [*]; done)), (by first | rfl | (simp; done) | (simp [*]; done)), H', ⟨by have := HK1.out; have := HK2.out; omega⟩, ⟨by (with_reducible repeat (first | apply Kd.N_alloc | apply Kd.N_drewN | apply Kd.N_drew)); exact HO_6.out⟩, ⟨by (with_reducible repeat (first | apply Kd.N_alloc | apply Kd.N_drewN | apply Kd.N_drew)); exact HO_8.out⟩, ⟨by (with_reducible repeat (first | apply Kd.N_alloc | apply Kd.N_drewN | apply Kd.N_drew)); exact HO_27.out⟩, ⟨by (with_reducible repeat (first | apply Kd.N_alloc | apply Kd.N_drewN | apply Kd.N_drew)); exact HO_34.out⟩, ⟨by repeat (first | (with_reducible exact HR192_0.out) | (with_reducible refine Kd.C_alloc ?_ _) | (with_reducible refine Kd.C_drewN ?_ _) | (with_reducible refine Kd.C_drew ?_) | exact HR192_0.out)⟩, ⟨by repeat (first | (with_reducible first | exact HB.out | apply below_alloc | apply pw_below_drewN | apply below_drew1) | exact HB.out)⟩⟩
                        · replace c15 := Bool.eq_false_iff.mpr c15
                          subst c15
                          have H1 : (spec_CrossedPoints.l1 k2 t188 x8_1 x29_1 (rd_L4 t188 x29_1) x11_2 x12_2 t188 (t188.length : Int) x29_1 t188 (t188.length : Int) (wrap64 (x36_2 + 1))) = some (r1, r2) := by rw [if_neg (show ¬ (false = true) by decide)] at H; exact H
                          clear H
                          have H := H1
                          clear H1
                          have H' := Aside0.mk H
                          clear H
                          have p193 : 0 ≤ (x36_2 : Int) := of_decide_eq_true (by first | (with_reducible assumption) | assumption)
                          have q193 : x36_2 < (t188.length : Int) := of_decide_eq_true (by first | (with_reducible assumption) | assumption)
                          obtain ⟨ad193, A193_0, c193_0, e193, hx193_0, hl193_0, hi193_0⟩ := at_L4 (Kd.N_reads' HO_34.out).2.2 x36_2 p193 q193
                          obtain rfl : ad192 = ad193 := (by injection e193)
                          obtain ⟨ce193, hce193, hMe193, hcc193⟩ := Kd.N_get HO_34.out [] x36_2 p193 (by first | exact q193 | exact of_decide_eq_true (by first | (with_reducible assumption) | assumption) | (have e_ := (Kd.N_reads' HO_34.out).1; omega))
                          obtain ⟨ua193_0, uc193_0, rfl, ul193_0, ge193_0⟩ := Kd.FK_slice_open hMe193
                          have hv193_0 := hcc193 0 _ rfl
                          rw [Nat.add_zero, show ((Kd.slice 3 (Kd.int .i64))).sz = 1 from rfl, Nat.mul_one] at hv193_0
                          replace hv193_0 := Option.some.inj (hv193_0.symm.trans hx193_0)
                          injection hv193_0 with hva_ hvn_ hvc_
                          rw [hva_] at ge193_0
                          rw [hvc_] at ul193_0
                          have HL193_0 := Aside0.mk (show Kd.V (Kd.int .i64) 3 _ w.heap.size _ _ (rd_L4 t188 x36_2) from Kd.V_mk ul193_0 ge193_0)
                          clear hva_ hvn_ hvc_ ge193_0 ul193_0
                          clear hcc193 hce193
                          have HR193_0 := Aside0.mk hi193_0
                          have HC193_0 := Aside0.mk hl193_0
                          clear hi193_0 hl193_0
                          replace p193 := eq_true p193
                          replace q193 := eq_true q193
                          go_wp2_with (first | (go_at_call 21; (with_reducible refine (spec_l1Same.calls k2 _ _ (rd_L4 t188 x29_1) _ _ (rd_L4 t188 x36_2) false _ ?side1 ?side2 ?side3 ?side4 A14.out).mono ?_); (case side1 => repeat (first | exact HR192_0.out | (with_reducible refine Kd.C_alloc ?_ _) | (with_reducible refine Kd.C_drewN ?_ _) | (with_reducible refine Kd.C_drew ?_))); (case side2 => exact HC192_0.out); (case side3 => repeat (first | exact (by repeat (first | (with_reducible exact HR193_0.out) | (with_reducible refine Kd.C_alloc ?_ _) | (with_reducible refine Kd.C_drewN ?_ _) | (with_reducible refine Kd.C_drew ?_) | exact HR193_0.out)) | (with_reducible refine Kd.C_alloc ?_ _) | (with_reducible refine Kd.C_drewN ?_ _) | (with_reducible refine Kd.C_drew ?_))); (case side4 => exact HC193_0.out); rintro e w' ⟨rfl, ⟨nd, rfl⟩⟩; (try first | exact ⟨rfl, _, World.drewN_drewN _ _ _⟩ | exact ⟨rfl, _, Eq.trans (World.drewN_drewN _ _ _) (congrArg (World.drewN _) (Nat.add_assoc _ _ _))⟩)))
                          repeat (go_quiet (first | (go_at_call 21; (with_reducible refine (spec_l1Same.calls k2 _ _ (rd_L4 t188 x29_1) _ _ (rd_L4 t188 x36_2) false _ ?side1 ?side2 ?side3 ?side4 A14.out).mono ?_); (case side1 => repeat (first | exact HR192_0.out | (with_reducible refine Kd.C_alloc ?_ _) | (with_reducible refine Kd.C_drewN ?_ _) | (with_reducible refine Kd.C_drew ?_))); (case side2 => exact HC192_0.out); (case side3 => repeat (first | exact (by repeat (first | (with_reducible exact HR193_0.out) | (with_reducible refine Kd.C_alloc ?_ _) | (with_reducible refine Kd.C_drewN ?_ _) | (with_reducible refine Kd.C_drew ?_) | exact HR193_0.out)) | (with_reducible refine Kd.C_alloc ?_ _) | (with_reducible refine Kd.C_drewN ?_ _) | (with_reducible refine Kd.C_drew ?_))); (case side4 => exact HC193_0.out); rintro e w' ⟨rfl, ⟨nd, rfl⟩⟩; (try first | exact ⟨rfl, _, World.drewN_drewN _ _ _⟩ | exact ⟨rfl, _, Eq.trans (World.drewN_drewN _ _ _) (congrArg (World.drewN _) (Nat.add_assoc _ _ _))⟩))); try go_wp2_with (first | (go_at_call 21; (with_reducible refine (spec_l1Same.calls k2 _ _ (rd_L4 t188 x29_1) _ _ (rd_L4 t188 x36_2) false _ ?side1 ?side2 ?side3 ?side4 A14.out).mono ?_); (case side1 => repeat (first | exact HR192_0.out | (with_reducible refine Kd.C_alloc ?_ _) | (with_reducible refine Kd.C_drewN ?_ _) | (with_reducible refine Kd.C_drew ?_))); (case side2 => exact HC192_0.out); (case side3 => repeat (first | exact (by repeat (first | (with_reducible exact HR193_0.out) | (with_reducible refine Kd.C_alloc ?_ _) | (with_reducible refine Kd.C_drewN ?_ _) | (with_reducible refine Kd.C_drew ?_) | exact HR193_0.out)) | (with_reducible refine Kd.C_alloc ?_ _) | (with_reducible refine Kd.C_drewN ?_ _) | (with_reducible refine Kd.C_drew ?_))); (case side4 => exact HC193_0.out); rintro e w' ⟨rfl, ⟨nd, rfl⟩⟩; (try first | exact ⟨rfl, _, World.drewN_drewN _ _ _⟩ | exact ⟨rfl, _, Eq.trans (World.drewN_drewN _ _ _) (congrArg (World.drewN _) (Nat.add_assoc _ _ _))⟩))))
                          go_roundg k2
                          case measure => have := HK1.out; have := HK2.out; omega
                          case rel => exact ⟨(x11_2), (x12_2), (wrap64 (x36_2 + 1)), (by first | rfl | (simp; done) | (simp [*]; done)), (by first | rfl | (simp; done) | (simp [*]; done)), (by first | rfl | (simp; done) | (simp [*]; done)), H', ⟨by have := HK1.out; have := HK2.out; omega⟩, ⟨by (with_reducible repeat (first | apply Kd.N_alloc | apply Kd.N_drewN | apply Kd.N_drew)); exact HO_6.out⟩, ⟨by (with_reducible repeat (first | apply Kd.N_alloc | apply Kd.N_drewN | apply Kd.N_drew)); exact HO_8.out⟩, ⟨by (with_reducible repeat (first | apply Kd.N_alloc | apply Kd.N_drewN | apply Kd.N_drew)); exact HO_27.out⟩, ⟨by (with_reducible repeat (first | apply Kd.N_alloc | apply Kd.N_drewN | apply Kd.N_drew)); exact HO_34.out⟩, ⟨by repeat (first | (with_reducible exact HR192_0.out) | (with_reducible refine Kd.C_alloc ?_ _) | (with_reducible refine Kd.C_drewN ?_ _) | (with_reducible refine Kd.C_drew ?_) | exact HR192_0.out)⟩, ⟨by repeat (first | (with_reducible first | exact HB.out | apply below_alloc | apply pw_below_drewN | apply below_drew1) | exact HB.out)⟩⟩
                      · rw [if_neg c13] at H
                        exact absurd H (by simp)
                    · rw [if_neg c12] at H
                      exact absurd H (by simp)
                  · rw [if_neg c11] at H
                    have c11b0 : decide (x36_2 < (t188.length : Int)) = false := decide_eq_false c11
                    clear c11
                    have HC17 := Aside0.mk H
                    clear H
                    go_upto_region 17 with (fail)
                    repeat (go_quiet (fail); go_upto_region 17 with (fail))
                    go_cut [58] (fun v58 wc => ∃ (kq : Nat) (x58_16 : Bool), v58 = .bool x58_16 ∧ Aside0 (spec_CrossedPoints.j2 kq t188 x8_1 (rd_L4 t188 x29_1) t188 (t188.length : Int) x29_1 x58_16 = some (r1, r2)) ∧ Aside0 (kq ≤ k2) ∧ Aside0 (Kd.N (Kd.slice 3 (Kd.int .i64)) 36 wc w.heap.size (fun k_ => (w.heap.size ≤ k_) ∧ some k_ ≠ (u8 : Value).ownBlock) (.slice (some ad192) t188.length co7) t188) ∧ Aside0 (Kd.N (Kd.slice 3 (Kd.int .i64)) 36 wc w.heap.size (fun k_ => (w.heap.size ≤ k_) ∧ some k_ ≠ ((.slice (some ad192) t188.length co7) : Value).ownBlock ∧ some k_ ≠ ((.slice (some ad192) t188.length co7) : Value).ownBlock) u8 x8_1) ∧ Aside0 (Kd.N (Kd.slice 3 (Kd.int .i64)) 36 wc w.heap.size (fun k_ => (w.heap.size ≤ k_) ∧ some k_ ≠ (u8 : Value).ownBlock) (.slice (some ad192) t188.length co7) t188) ∧ Aside0 (Kd.C (Kd.int .i64) wc A192_0 (rd_L4 t188 x29_1).length (rd_L4 t188 x29_1)) ∧ Aside0 (Below w.heap.size w wc))
                    case first =>
                      have H := HC17.out
                      clear HC17
                      by_cases c18 : x11_2 < 2
                      · rw [if_pos c18] at H
                        have c18b0 : decide (x11_2 < 2) = true := decide_eq_true c18
                        clear c18
                        (first | rw [c18b0] | (simp only [i64_w, i32_w]; rw [c18b0]) | rw [c18b1] | skip)
                        have H' := Aside0.mk H
                        clear H
                        go_wp2
                        repeat (go_quiet (fail); try go_wp2)
                        go_meet
                        case rel => exact ⟨_, (true), (by first | rfl | (simp; done) | (simp [*]; done)), H', ⟨by have := HK1.out; have := HK2.out; first | omega | exact Nat.le_refl _⟩, ⟨by (with_reducible repeat (first | apply Kd.N_alloc | apply Kd.N_drewN | apply Kd.N_drew)); exact HO_6.out⟩, ⟨by (with_reducible repeat (first | apply Kd.N_alloc | apply Kd.N_drewN | apply Kd.N_drew)); exact Kd.N_mono HO_8.out (fun _ hk => ⟨hk.1, ⟨hk.2.1, hk.2.2.1⟩⟩)⟩, ⟨by (with_reducible repeat (first | apply Kd.N_alloc | apply Kd.N_drewN | apply Kd.N_drew)); exact HO_27.out⟩, ⟨by repeat (first | (with_reducible exact HR192_0.out) | (with_reducible refine Kd.C_alloc ?_ _) | (with_reducible refine Kd.C_drewN ?_ _) | (with_reducible refine Kd.C_drew ?_) | exact HR192_0.out)⟩, ⟨by repeat (first | (with_reducible first | exact HB.out | apply below_alloc | apply pw_below_drewN | apply below_drew1) | exact HB.out)⟩⟩
                      · rw [if_neg c18] at H
                        have c18b0 : decide (x11_2 < 2) = false := decide_eq_false c18
                        clear c18
                        (first | rw [c18b0] | (simp only [i64_w, i32_w]; rw [c18b0]) | rw [c18b1] | skip)
                        have H' := Aside0.mk H
                        clear H
                        go_wp2
                        repeat (go_quiet (fail); try go_wp2)
                        go_meet
                        case rel => exact ⟨_, (!x12_2), (by first | rfl | (simp; done) | (simp [*]; done)), H', ⟨by have := HK1.out; have := HK2.out; first | omega | exact Nat.le_refl _⟩, ⟨by (with_reducible repeat (first | apply Kd.N_alloc | apply Kd.N_drewN | apply Kd.N_drew)); exact HO_6.out⟩, ⟨by (with_reducible repeat (first | apply Kd.N_alloc | apply Kd.N_drewN | apply Kd.N_drew)); exact Kd.N_mono HO_8.out (fun _ hk => ⟨hk.1, ⟨hk.2.1, hk.2.2.1⟩⟩)⟩, ⟨by (with_reducible repeat (first | apply Kd.N_alloc | apply Kd.N_drewN | apply Kd.N_drew)); exact HO_27.out⟩, ⟨by repeat (first | (with_reducible exact HR192_0.out) | (with_reducible refine Kd.C_alloc ?_ _) | (with_reducible refine Kd.C_drewN ?_ _) | (with_reducible refine Kd.C_drew ?_) | exact HR192_0.out)⟩, ⟨by repeat (first | (with_reducible first | exact HB.out | apply below_alloc | apply pw_below_drewN | apply below_drew1) | exact HB.out)⟩⟩
                    case rest =>
                      clear HC17
                      try clear c1
                      try clear p1
                      try clear q1
                      try clear hx1
                      try clear p2
                      try clear c4
                      try clear p6
                      try clear c8
                      try clear c8b0
                      try clear c9
                      try clear c9b0
                      try clear c10
                      try clear c10b0
                      try clear c11
                      try clear c11b0
                      try clear c12
                      try clear c12b0
                      try clear c13
                      try clear c13b0
                      try clear c15
                      try clear c16
                      try clear c18
                      try clear c18b0
                      try clear c18b1
                      try clear hx192_0
                      try clear hx193_0
                      try clear p1
                      try clear p192
                      try clear p193
                      try clear p2
                      try clear q1
                      try clear q192
                      try clear q193
                      obtain ⟨kq, x58_16, rfl, HA, HJ16, HO_6, HO_8, HO_27, HR192_0, HB⟩ := hcut
                      cases kq with
                      | zero => exact absurd HA.out (by simp [spec_CrossedPoints.j2])
                      | succ kj16 =>
                        have H := HA.out
                        clear HA
                        simp only [spec_CrossedPoints.j2] at H
                        by_cases c19 : x58_16 = true
                        · subst c19
                          have H1 : (spec_CrossedPoints.l0 kj16 t188 x8_1 t188 (t188.length : Int) (wrap64 (x29_1 + 1))) = some (r1, r2) := by rw [if_pos rfl] at H; exact H
                          clear H
                          have H := H1
                          clear H1
                          have H' := Aside0.mk H
                          clear H
                          go_wp2
                          repeat (go_quiet (fail); try go_wp2)
                          go_roundg kj16
                          case measure => have := HK1.out; have := HK2.out; have := HJ16.out; omega
                          case rel => exact ⟨(x8_1), (wrap64 (x29_1 + 1)), (by first | rfl | (simp; done) | (simp [*]; done)), H', ⟨by have := HK1.out; have := HK2.out; have := HJ16.out; omega⟩, ⟨by (with_reducible repeat (first | apply Kd.N_alloc | apply Kd.N_drewN | apply Kd.N_drew)); exact HO_6.out⟩, ⟨by (with_reducible repeat (first | apply Kd.N_alloc | apply Kd.N_drewN | apply Kd.N_drew)); exact HO_8.out⟩, ⟨by (with_reducible repeat (first | apply Kd.N_alloc | apply Kd.N_drewN | apply Kd.N_drew)); exact HO_27.out⟩, ⟨by repeat (first | (with_reducible first | exact HB.out | apply below_alloc | apply pw_below_drewN | apply below_drew1) | exact HB.out)⟩⟩
                        · replace c19 := Bool.eq_false_iff.mpr c19
                          subst c19
                          have H1 : (spec_CrossedPoints.l2 kj16 t188 x8_1 (rd_L4 t188 x29_1) (x8_1.length : Int) t188 (t188.length : Int) x29_1) = some (r1, r2) := by rw [if_neg (show ¬ (false = true) by decide)] at H; exact H
                          clear H
                          have H := H1
                          clear H1
                          have H' := Aside0.mk H
                          clear H
                          obtain ⟨Ao20, co20, eo20⟩ := Kd.N_slice HO_8.out
                          subst eo20
                          go_wp2
                          repeat (go_quiet (fail); try go_wp2)
                          go_loopg [15] kj16 (fun kq v15 w' => ∃ (x15_4 : Int), v15 = .int .i64 x15_4 ∧ Aside0 (spec_CrossedPoints.l2 kq t188 x8_1 (rd_L4 t188 x29_1) x15_4 t188 (t188.length : Int) x29_1 = some (r1, r2)) ∧ Aside0 (kq ≤ kj16) ∧ Aside0 (Kd.N (Kd.slice 3 (Kd.int .i64)) 36 w' w.heap.size (fun k_ => (w.heap.size ≤ k_) ∧ some k_ ≠ ((.slice Ao20 x8_1.length co20) : Value).ownBlock) (.slice (some ad192) t188.length co7) t188) ∧ Aside0 (Kd.N (Kd.slice 3 (Kd.int .i64)) 36 w' w.heap.size (fun k_ => (w.heap.size ≤ k_) ∧ some k_ ≠ ((.slice (some ad192) t188.length co7) : Value).ownBlock ∧ some k_ ≠ ((.slice (some ad192) t188.length co7) : Value).ownBlock) (.slice Ao20 x8_1.length co20) x8_1) ∧ Aside0 (Kd.N (Kd.slice 3 (Kd.int .i64)) 36 w' w.heap.size (fun k_ => (w.heap.size ≤ k_) ∧ some k_ ≠ ((.slice Ao20 x8_1.length co20) : Value).ownBlock) (.slice (some ad192) t188.length co7) t188) ∧ Aside0 (Kd.C (Kd.int .i64) w' A192_0 (rd_L4 t188 x29_1).length (rd_L4 t188 x29_1)) ∧ Aside0 (Below w.heap.size w w'))
                          case atStart => exact ⟨((x8_1.length : Int)), (by first | rfl | (simp; done) | (simp [*]; done)), H', ⟨Nat.le_refl _⟩, ⟨by (with_reducible repeat (first | apply Kd.N_alloc | apply Kd.N_drewN | apply Kd.N_drew)); exact HO_6.out⟩, ⟨by (with_reducible repeat (first | apply Kd.N_alloc | apply Kd.N_drewN | apply Kd.N_drew)); exact HO_8.out⟩, ⟨by (with_reducible repeat (first | apply Kd.N_alloc | apply Kd.N_drewN | apply Kd.N_drew)); exact HO_27.out⟩, ⟨by repeat (first | (with_reducible exact HR192_0.out) | (with_reducible refine Kd.C_alloc ?_ _) | (with_reducible refine Kd.C_drewN ?_ _) | (with_reducible refine Kd.C_drew ?_) | exact HR192_0.out)⟩, ⟨by repeat (first | (with_reducible first | exact HB.out | apply below_alloc | apply pw_below_drewN | apply below_drew1) | exact HB.out)⟩⟩
                          case round =>
                            clear H'
                            try clear c1
                            try clear p1
                            try clear q1
                            try clear hx1
                            try clear p2
                            try clear c4
                            try clear p6
                            try clear c8
                            try clear c8b0
                            try clear c9
                            try clear c9b0
                            try clear c10
                            try clear c10b0
                            try clear c11
                            try clear c11b0
                            try clear c12
                            try clear c12b0
                            try clear c13
                            try clear c13b0
                            try clear c15
                            try clear c16
                            try clear c18
                            try clear c18b0
                            try clear c18b1
                            try clear c19
                            try clear p19
                            try clear q19
                            try clear hx19
                            try clear hx192_0
                            try clear hx193_0
                            try clear p1
                            try clear p192
                            try clear p193
                            try clear p2
                            try clear p6
                            try clear q1
                            try clear q192
                            try clear q193
                            obtain ⟨x15_4, rfl, HA, HK4, HO_6, HO_8, HO_27, HR192_0, HB⟩ := hrel
                            cases gk with
                            | zero => exact absurd HA.out (by simp [spec_CrossedPoints.l2])
                            | succ k4 =>
                              have H := HA.out
                              clear HA
                              simp only [spec_CrossedPoints.l2] at H
                              by_cases c21 : x15_4 > 0
                              · rw [if_pos c21] at H
                                have c21b0 : decide (0 < x15_4) = true := decide_eq_true c21
                                clear c21
                                by_cases c22 : 0 < ((rd_L4 t188 x29_1).length : Int)
                                · rw [if_pos c22] at H
                                  have c22b0 : decide (0 < ((rd_L4 t188 x29_1).length : Int)) = true := decide_eq_true c22
                                  have c22b1 : decide (0 < (rd_L4 t188 x29_1).length) = true := decide_eq_true (by omega)
                                  clear c22
                                  obtain ⟨ji23, hji23⟩ : ∃ j_ : Int, (wrap64 (x15_4 - 1)) = j_ := ⟨_, rfl⟩
                                  replace H : (if 0 ≤ (ji23) then (if (ji23) < (x8_1.length : Int) then (if 0 < ((rd_L4 x8_1 (ji23)).length : Int) then (if (rd (rd_L4 t188 x29_1) 0) < (rd (rd_L4 x8_1 (ji23)) 0) then (spec_CrossedPoints.l2 k4 t188 x8_1 (rd_L4 t188 x29_1) ji23 t188 (t188.length : Int) x29_1) else (if (rd (rd_L4 t188 x29_1) 0) = (rd (rd_L4 x8_1 (ji23)) 0) then (if 1 < ((rd_L4 t188 x29_1).length : Int) then (if 1 < ((rd_L4 x8_1 (ji23)).length : Int) then (if (rd (rd_L4 t188 x29_1) 1) < (rd (rd_L4 x8_1 (ji23)) 1) then (spec_CrossedPoints.l2 k4 t188 x8_1 (rd_L4 t188 x29_1) ji23 t188 (t188.length : Int) x29_1) else ((some (([] : List (List Int)) : List (List Int))).bind fun y204 => (if 0 ≤ x15_4 then (if x15_4 ≤ (x8_1.length : Int) then ((some (x8_1.take (x15_4 : Int).toNat : List (List Int))).bind fun y207 => (if y204.length + y207.length < 5864062014805 then ((some (y204 ++ y207 : List (List Int))).bind fun y212 => ((spec_l1Own.f (rd_L4 t188 x29_1)).bind fun t215 => (if y212.length < 5864062014805 then ((some (y212 ++ [t215] : List (List Int))).bind fun y218 => ((some (x8_1.drop (x15_4 : Int).toNat : List (List Int))).bind fun y221 => (if y218.length + y221.length < 5864062014805 then (spec_CrossedPoints.l0 k4 t188 (y218 ++ y221) t188 (t188.length : Int) (wrap64 (x29_1 + 1))) else (none)))) else (none)))) else (none))) else (none)) else (none)))) else (none)) else (none)) else ((some (([] : List (List Int)) : List (List Int))).bind fun y229 => (if 0 ≤ x15_4 then (if x15_4 ≤ (x8_1.length : Int) then ((some (x8_1.take (x15_4 : Int).toNat : List (List Int))).bind fun y232 => (if y229.length + y232.length < 5864062014805 then ((some (y229 ++ y232 : List (List Int))).bind fun y237 => ((spec_l1Own.f (rd_L4 t188 x29_1)).bind fun t240 => (if y237.length < 5864062014805 then ((some (y237 ++ [t240] : List (List Int))).bind fun y243 => ((some (x8_1.drop (x15_4 : Int).toNat : List (List Int))).bind fun y246 => (if y243.length + y246.length < 5864062014805 then (spec_CrossedPoints.l0 k4 t188 (y243 ++ y246) t188 (t188.length : Int) (wrap64 (x29_1 + 1))) else (none)))) else (none)))) else (none))) else (none)) else (none))))) else (none)) else (none)) else (none)) = some (r1, r2) := by first | (rw [hji23] at H; exact H) | (simp only [hji23] at H ⊢; exact H)
                                  have hji23w : (IntKind.i64.wrap (x15_4 - 1)) = ji23 := (i64_w _).trans hji23
                                  by_cases c24 : 0 ≤ (ji23)
                                  · rw [if_pos c24] at H
                                    have c24b0 : decide (0 ≤ (ji23)) = true := decide_eq_true c24
                                    clear c24
                                    by_cases c25 : (ji23) < (x8_1.length : Int)
                                    · rw [if_pos c25] at H
                                      have c25b0 : decide ((ji23) < (x8_1.length : Int)) = true := decide_eq_true c25
                                      clear c25
                                      by_cases c26 : 0 < ((rd_L4 x8_1 (ji23)).length : Int)
                                      · rw [if_pos c26] at H
                                        have c26b0 : decide (0 < ((rd_L4 x8_1 (ji23)).length : Int)) = true := decide_eq_true c26
                                        have c26b1 : decide (0 < (rd_L4 x8_1 (ji23)).length) = true := decide_eq_true (by omega)
                                        clear c26
                                        by_cases c27 : (rd (rd_L4 t188 x29_1) 0) < (rd (rd_L4 x8_1 (ji23)) 0)
                                        · rw [if_pos c27] at H
                                          have c27b0 : decide ((rd (rd_L4 t188 x29_1) 0) < (rd (rd_L4 x8_1 (ji23)) 0)) = true := decide_eq_true c27
                                          clear c27
                                          have H' := Aside0.mk H
                                          clear H
                                          have p195 : 0 ≤ (0 : Int) := (by omega)
                                          have q195 : 0 < ((rd_L4 t188 x29_1).length : Int) := of_decide_eq_true (by first | (with_reducible assumption) | assumption)
                                          obtain ⟨ad195, e195, hx195_0⟩ := Kd.at_int HR192_0.out 0 p195 q195
                                          cases e195
                                          have qi195 : (0 < (rd_L4 t188 x29_1).length) = True := eq_true (by omega)
                                          (try rw [show ((0 : Int)).toNat = 0 from rfl] at hx195_0)
                                          (try rw [Addr.add_zero'] at hx195_0)
                                          first | replace hx195_0 := (HB.out.cell (World.block_lt_of_cell? w _ hx195_0)).trans hx195_0 | skip
                                          replace p195 := eq_true p195
                                          replace q195 := eq_true q195
                                          have p196 : 0 ≤ ((ji23) : Int) := of_decide_eq_true (by first | (with_reducible assumption) | assumption)
                                          have q196 : (ji23) < (x8_1.length : Int) := of_decide_eq_true (by first | (with_reducible assumption) | assumption)
                                          obtain ⟨ad196, A196_0, c196_0, e196, hx196_0, hl196_0, hi196_0⟩ := at_L4 (Kd.N_reads' HO_8.out).2.2 (ji23) p196 q196
                                          cases e196
                                          obtain ⟨ce196, hce196, hMe196, hcc196⟩ := Kd.N_get HO_8.out [] (ji23) p196 (by first | exact q196 | exact of_decide_eq_true (by first | (with_reducible assumption) | assumption) | (have e_ := (Kd.N_reads' HO_8.out).1; omega))
                                          obtain ⟨ua196_0, uc196_0, rfl, ul196_0, ge196_0⟩ := Kd.FK_slice_open hMe196
                                          have hv196_0 := hcc196 0 _ rfl
                                          rw [Nat.add_zero, show ((Kd.slice 3 (Kd.int .i64))).sz = 1 from rfl, Nat.mul_one] at hv196_0
                                          replace hv196_0 := Option.some.inj (hv196_0.symm.trans hx196_0)
                                          injection hv196_0 with hva_ hvn_ hvc_
                                          rw [hva_] at ge196_0
                                          rw [hvc_] at ul196_0
                                          have HL196_0 := Aside0.mk (show Kd.V (Kd.int .i64) 3 _ w.heap.size _ _ (rd_L4 x8_1 (ji23)) from Kd.V_mk ul196_0 ge196_0)
                                          clear hva_ hvn_ hvc_ ge196_0 ul196_0
                                          clear hcc196 hce196
                                          have HR196_0 := Aside0.mk hi196_0
                                          have HC196_0 := Aside0.mk hl196_0
                                          clear hi196_0 hl196_0
                                          replace p196 := eq_true p196
                                          replace q196 := eq_true q196
                                          have p197 : 0 ≤ (0 : Int) := (by omega)
                                          have q197 : 0 < ((rd_L4 x8_1 (ji23)).length : Int) := of_decide_eq_true (by first | (with_reducible assumption) | assumption)
                                          obtain ⟨ad197, e197, hx197_0⟩ := Kd.at_int (by repeat (first | (with_reducible exact HR196_0.out) | (with_reducible refine Kd.C_alloc ?_ _) | (with_reducible refine Kd.C_drewN ?_ _) | (with_reducible refine Kd.C_drew ?_) | exact HR196_0.out)) 0 p197 q197
                                          cases e197
                                          have qi197 : (0 < (rd_L4 x8_1 (ji23)).length) = True := eq_true (by omega)
                                          (try rw [show ((0 : Int)).toNat = 0 from rfl] at hx197_0)
                                          (try rw [Addr.add_zero'] at hx197_0)
                                          replace p197 := eq_true p197
                                          replace q197 := eq_true q197
                                          go_wp2
                                          repeat (go_quiet (fail); try go_wp2)
                                          go_roundg k4
                                          case measure => have := HK1.out; have := HK2.out; have := HJ16.out; have := HK4.out; omega
                                          case rel => exact ⟨(ji23), (by first | rfl | (simp; done) | (simp only [← hji23] <;> (first | rfl | simp)) | (simp [*]; done)), H', ⟨by have := HK1.out; have := HK2.out; have := HJ16.out; have := HK4.out; omega⟩, ⟨by (with_reducible repeat (first | apply Kd.N_alloc | apply Kd.N_drewN | apply Kd.N_drew)); exact HO_6.out⟩, ⟨by (with_reducible repeat (first | apply Kd.N_alloc | apply Kd.N_drewN | apply Kd.N_drew)); exact HO_8.out⟩, ⟨by (with_reducible repeat (first | apply Kd.N_alloc | apply Kd.N_drewN | apply Kd.N_drew)); exact HO_27.out⟩, ⟨by repeat (first | (with_reducible exact HR192_0.out) | (with_reducible refine Kd.C_alloc ?_ _) | (with_reducible refine Kd.C_drewN ?_ _) | (with_reducible refine Kd.C_drew ?_) | exact HR192_0.out)⟩, ⟨by repeat (first | (with_reducible first | exact HB.out | apply below_alloc | apply pw_below_drewN | apply below_drew1) | exact HB.out)⟩⟩
                                        · rw [if_neg c27] at H
                                          have c27b0 : decide ((rd (rd_L4 t188 x29_1) 0) < (rd (rd_L4 x8_1 (ji23)) 0)) = false := decide_eq_false c27
                                          clear c27
                                          by_cases c28 : (rd (rd_L4 t188 x29_1) 0) = (rd (rd_L4 x8_1 (ji23)) 0)
                                          · rw [if_pos c28] at H
                                            have c28b0 : ((rd (rd_L4 t188 x29_1) 0) == (rd (rd_L4 x8_1 (ji23)) 0)) = true := beq_iff_eq.mpr c28
                                            have c28b1 : ((rd (rd_L4 t188 x29_1) 0) != (rd (rd_L4 x8_1 (ji23)) 0)) = false := bne_eq_false_iff_eq.mpr c28
                                            clear c28
                                            by_cases c29 : 1 < ((rd_L4 t188 x29_1).length : Int)
                                            · rw [if_pos c29] at H
                                              have c29b0 : decide (1 < ((rd_L4 t188 x29_1).length : Int)) = true := decide_eq_true c29
                                              have c29b1 : decide (1 < (rd_L4 t188 x29_1).length) = true := decide_eq_true (by omega)
                                              clear c29
                                              by_cases c30 : 1 < ((rd_L4 x8_1 (ji23)).length : Int)
                                              · rw [if_pos c30] at H
                                                have c30b0 : decide (1 < ((rd_L4 x8_1 (ji23)).length : Int)) = true := decide_eq_true c30
                                                have c30b1 : decide (1 < (rd_L4 x8_1 (ji23)).length) = true := decide_eq_true (by omega)
                                                clear c30
                                                by_cases c31 : (rd (rd_L4 t188 x29_1) 1) < (rd (rd_L4 x8_1 (ji23)) 1)
                                                · rw [if_pos c31] at H
                                                  have c31b0 : decide ((rd (rd_L4 t188 x29_1) 1) < (rd (rd_L4 x8_1 (ji23)) 1)) = true := decide_eq_true c31
                                                  clear c31
                                                  have H' := Aside0.mk H
                                                  clear H
                                                  have p195 : 0 ≤ (0 : Int) := (by omega)
                                                  have q195 : 0 < ((rd_L4 t188 x29_1).length : Int) := of_decide_eq_true (by first | (with_reducible assumption) | assumption)
                                                  obtain ⟨ad195, e195, hx195_0⟩ := Kd.at_int HR192_0.out 0 p195 q195
                                                  cases e195
                                                  have qi195 : (0 < (rd_L4 t188 x29_1).length) = True := eq_true (by omega)
                                                  (try rw [show ((0 : Int)).toNat = 0 from rfl] at hx195_0)
                                                  (try rw [Addr.add_zero'] at hx195_0)
                                                  first | replace hx195_0 := (HB.out.cell (World.block_lt_of_cell? w _ hx195_0)).trans hx195_0 | skip
                                                  replace p195 := eq_true p195
                                                  replace q195 := eq_true q195
                                                  have p196 : 0 ≤ ((ji23) : Int) := of_decide_eq_true (by first | (with_reducible assumption) | assumption)
                                                  have q196 : (ji23) < (x8_1.length : Int) := of_decide_eq_true (by first | (with_reducible assumption) | assumption)
                                                  obtain ⟨ad196, A196_0, c196_0, e196, hx196_0, hl196_0, hi196_0⟩ := at_L4 (Kd.N_reads' HO_8.out).2.2 (ji23) p196 q196
                                                  cases e196
                                                  obtain ⟨ce196, hce196, hMe196, hcc196⟩ := Kd.N_get HO_8.out [] (ji23) p196 (by first | exact q196 | exact of_decide_eq_true (by first | (with_reducible assumption) | assumption) | (have e_ := (Kd.N_reads' HO_8.out).1; omega))
                                                  obtain ⟨ua196_0, uc196_0, rfl, ul196_0, ge196_0⟩ := Kd.FK_slice_open hMe196
                                                  have hv196_0 := hcc196 0 _ rfl
                                                  rw [Nat.add_zero, show ((Kd.slice 3 (Kd.int .i64))).sz = 1 from rfl, Nat.mul_one] at hv196_0
                                                  replace hv196_0 := Option.some.inj (hv196_0.symm.trans hx196_0)
                                                  injection hv196_0 with hva_ hvn_ hvc_
                                                  rw [hva_] at ge196_0
                                                  rw [hvc_] at ul196_0
                                                  have HL196_0 := Aside0.mk (show Kd.V (Kd.int .i64) 3 _ w.heap.size _ _ (rd_L4 x8_1 (ji23)) from Kd.V_mk ul196_0 ge196_0)
                                                  clear hva_ hvn_ hvc_ ge196_0 ul196_0
                                                  clear hcc196 hce196
                                                  have HR196_0 := Aside0.mk hi196_0
                                                  have HC196_0 := Aside0.mk hl196_0
                                                  clear hi196_0 hl196_0
                                                  replace p196 := eq_true p196
                                                  replace q196 := eq_true q196
                                                  have p197 : 0 ≤ (0 : Int) := (by omega)
                                                  have q197 : 0 < ((rd_L4 x8_1 (ji23)).length : Int) := of_decide_eq_true (by first | (with_reducible assumption) | assumption)
                                                  obtain ⟨ad197, e197, hx197_0⟩ := Kd.at_int (by repeat (first | (with_reducible exact HR196_0.out) | (with_reducible refine Kd.C_alloc ?_ _) | (with_reducible refine Kd.C_drewN ?_ _) | (with_reducible refine Kd.C_drew ?_) | exact HR196_0.out)) 0 p197 q197
                                                  cases e197
                                                  have qi197 : (0 < (rd_L4 x8_1 (ji23)).length) = True := eq_true (by omega)
                                                  (try rw [show ((0 : Int)).toNat = 0 from rfl] at hx197_0)
                                                  (try rw [Addr.add_zero'] at hx197_0)
                                                  replace p197 := eq_true p197
                                                  replace q197 := eq_true q197
                                                  have p198 : 0 ≤ (0 : Int) := (by omega)
                                                  have q198 : 0 < ((rd_L4 t188 x29_1).length : Int) := of_decide_eq_true (by first | (with_reducible assumption) | assumption)
                                                  obtain ⟨ad198, e198, hx198_0⟩ := Kd.at_int HR192_0.out 0 p198 q198
                                                  obtain rfl : ad195 = ad198 := (by injection e198)
                                                  have qi198 : (0 < (rd_L4 t188 x29_1).length) = True := eq_true (by omega)
                                                  (try rw [show ((0 : Int)).toNat = 0 from rfl] at hx198_0)
                                                  (try rw [Addr.add_zero'] at hx198_0)
                                                  first | replace hx198_0 := (HB.out.cell (World.block_lt_of_cell? w _ hx198_0)).trans hx198_0 | skip
                                                  replace p198 := eq_true p198
                                                  replace q198 := eq_true q198
                                                  have p199 : 0 ≤ ((ji23) : Int) := of_decide_eq_true (by first | (with_reducible assumption) | assumption)
                                                  have q199 : (ji23) < (x8_1.length : Int) := of_decide_eq_true (by first | (with_reducible assumption) | assumption)
                                                  obtain ⟨ad199, A199_0, c199_0, e199, hx199_0, hl199_0, hi199_0⟩ := at_L4 (Kd.N_reads' HO_8.out).2.2 (ji23) p199 q199
                                                  obtain rfl : ad196 = ad199 := (by injection e199)
                                                  obtain ⟨ce199, hce199, hMe199, hcc199⟩ := Kd.N_get HO_8.out [] (ji23) p199 (by first | exact q199 | exact of_decide_eq_true (by first | (with_reducible assumption) | assumption) | (have e_ := (Kd.N_reads' HO_8.out).1; omega))
                                                  obtain ⟨ua199_0, uc199_0, rfl, ul199_0, ge199_0⟩ := Kd.FK_slice_open hMe199
                                                  have hv199_0 := hcc199 0 _ rfl
                                                  rw [Nat.add_zero, show ((Kd.slice 3 (Kd.int .i64))).sz = 1 from rfl, Nat.mul_one] at hv199_0
                                                  replace hv199_0 := Option.some.inj (hv199_0.symm.trans hx199_0)
                                                  injection hv199_0 with hva_ hvn_ hvc_
                                                  rw [hva_] at ge199_0
                                                  rw [hvc_] at ul199_0
                                                  have HL199_0 := Aside0.mk (show Kd.V (Kd.int .i64) 3 _ w.heap.size _ _ (rd_L4 x8_1 (ji23)) from Kd.V_mk ul199_0 ge199_0)
                                                  clear hva_ hvn_ hvc_ ge199_0 ul199_0
                                                  clear hcc199 hce199
                                                  have HR199_0 := Aside0.mk hi199_0
                                                  have HC199_0 := Aside0.mk hl199_0
                                                  clear hi199_0 hl199_0
                                                  replace p199 := eq_true p199
                                                  replace q199 := eq_true q199
                                                  have ea_ := Option.some.inj (hx196_0.symm.trans hx199_0)
                                                  injection ea_ with ea_ en_ ec_
                                                  subst ea_
                                                  subst ec_
                                                  clear en_
                                                  have p200 : 0 ≤ (0 : Int) := (by omega)
                                                  have q200 : 0 < ((rd_L4 x8_1 (ji23)).length : Int) := of_decide_eq_true (by first | (with_reducible assumption) | assumption)
                                                  obtain ⟨ad200, e200, hx200_0⟩ := Kd.at_int (by repeat (first | (with_reducible exact HR199_0.out) | (with_reducible refine Kd.C_alloc ?_ _) | (with_reducible refine Kd.C_drewN ?_ _) | (with_reducible refine Kd.C_drew ?_) | exact HR199_0.out)) 0 p200 q200
                                                  cases e200
                                                  have qi200 : (0 < (rd_L4 x8_1 (ji23)).length) = True := eq_true (by omega)
                                                  (try rw [show ((0 : Int)).toNat = 0 from rfl] at hx200_0)
                                                  (try rw [Addr.add_zero'] at hx200_0)
                                                  replace p200 := eq_true p200
                                                  replace q200 := eq_true q200
                                                  have p201 : 0 ≤ (1 : Int) := (by omega)
                                                  have q201 : 1 < ((rd_L4 t188 x29_1).length : Int) := of_decide_eq_true (by first | (with_reducible assumption) | assumption)
                                                  obtain ⟨ad201, e201, hx201_0⟩ := Kd.at_int HR192_0.out 1 p201 q201
                                                  obtain rfl : ad195 = ad201 := (by injection e201)
                                                  (try simp only [show (1 : Int).toNat = 1 from rfl, Nat.reduceMul, Nat.reduceEqDiff, Go.Addr.add, ↓reduceIte] at hx201_0)
                                                  have qi201 : (1 < (rd_L4 t188 x29_1).length) = True := eq_true (by omega)
                                                  (try rw [show ((1 : Int)).toNat = 1 from rfl] at hx201_0)
                                                  first | replace hx201_0 := (HB.out.cell (World.block_lt_of_cell? w _ hx201_0)).trans hx201_0 | skip
                                                  replace p201 := eq_true p201
                                                  replace q201 := eq_true q201
                                                  have p202 : 0 ≤ ((ji23) : Int) := of_decide_eq_true (by first | (with_reducible assumption) | assumption)
                                                  have q202 : (ji23) < (x8_1.length : Int) := of_decide_eq_true (by first | (with_reducible assumption) | assumption)
                                                  obtain ⟨ad202, A202_0, c202_0, e202, hx202_0, hl202_0, hi202_0⟩ := at_L4 (Kd.N_reads' HO_8.out).2.2 (ji23) p202 q202
                                                  obtain rfl : ad196 = ad202 := (by injection e202)
                                                  obtain ⟨ce202, hce202, hMe202, hcc202⟩ := Kd.N_get HO_8.out [] (ji23) p202 (by first | exact q202 | exact of_decide_eq_true (by first | (with_reducible assumption) | assumption) | (have e_ := (Kd.N_reads' HO_8.out).1; omega))
                                                  obtain ⟨ua202_0, uc202_0, rfl, ul202_0, ge202_0⟩ := Kd.FK_slice_open hMe202
                                                  have hv202_0 := hcc202 0 _ rfl
                                                  rw [Nat.add_zero, show ((Kd.slice 3 (Kd.int .i64))).sz = 1 from rfl, Nat.mul_one] at hv202_0
                                                  replace hv202_0 := Option.some.inj (hv202_0.symm.trans hx202_0)
                                                  injection hv202_0 with hva_ hvn_ hvc_
                                                  rw [hva_] at ge202_0
                                                  rw [hvc_] at ul202_0
                                                  have HL202_0 := Aside0.mk (show Kd.V (Kd.int .i64) 3 _ w.heap.size _ _ (rd_L4 x8_1 (ji23)) from Kd.V_mk ul202_0 ge202_0)
                                                  clear hva_ hvn_ hvc_ ge202_0 ul202_0
                                                  clear hcc202 hce202
                                                  have HR202_0 := Aside0.mk hi202_0
                                                  have HC202_0 := Aside0.mk hl202_0
                                                  clear hi202_0 hl202_0
                                                  replace p202 := eq_true p202
                                                  replace q202 := eq_true q202
                                                  have ea_ := Option.some.inj (hx196_0.symm.trans hx202_0)
                                                  injection ea_ with ea_ en_ ec_
                                                  subst ea_
                                                  subst ec_
                                                  clear en_
                                                  have p203 : 0 ≤ (1 : Int) := (by omega)
                                                  have q203 : 1 < ((rd_L4 x8_1 (ji23)).length : Int) := of_decide_eq_true (by first | (with_reducible assumption) | assumption)
                                                  obtain ⟨ad203, e203, hx203_0⟩ := Kd.at_int (by repeat (first | (with_reducible exact HR202_0.out) | (with_reducible refine Kd.C_alloc ?_ _) | (with_reducible refine Kd.C_drewN ?_ _) | (with_reducible refine Kd.C_drew ?_) | exact HR202_0.out)) 1 p203 q203
                                                  cases e203
                                                  (try simp only [show (1 : Int).toNat = 1 from rfl, Nat.reduceMul, Nat.reduceEqDiff, Go.Addr.add, ↓reduceIte] at hx203_0)
                                                  have qi203 : (1 < (rd_L4 x8_1 (ji23)).length) = True := eq_true (by omega)
                                                  (try rw [show ((1 : Int)).toNat = 1 from rfl] at hx203_0)
                                                  replace p203 := eq_true p203
                                                  replace q203 := eq_true q203
                                                  go_wp2
                                                  repeat (go_quiet (fail); try go_wp2)
                                                  go_roundg k4
                                                  case measure => have := HK1.out; have := HK2.out; have := HJ16.out; have := HK4.out; omega
                                                  case rel => exact ⟨(ji23), (by first | rfl | (simp; done) | (simp only [← hji23] <;> (first | rfl | simp)) | (simp [*]; done)), H', ⟨by have := HK1.out; have := HK2.out; have := HJ16.out; have := HK4.out; omega⟩, ⟨by (with_reducible repeat (first | apply Kd.N_alloc | apply Kd.N_drewN | apply Kd.N_drew)); exact HO_6.out⟩, ⟨by (with_reducible repeat (first | apply Kd.N_alloc | apply Kd.N_drewN | apply Kd.N_drew)); exact HO_8.out⟩, ⟨by (with_reducible repeat (first | apply Kd.N_alloc | apply Kd.N_drewN | apply Kd.N_drew)); exact HO_27.out⟩, ⟨by repeat (first | (with_reducible exact HR192_0.out) | (with_reducible refine Kd.C_alloc ?_ _) | (with_reducible refine Kd.C_drewN ?_ _) | (with_reducible refine Kd.C_drew ?_) | exact HR192_0.out)⟩, ⟨by repeat (first | (with_reducible first | exact HB.out | apply below_alloc | apply pw_below_drewN | apply below_drew1) | exact HB.out)⟩⟩
                                                · rw [if_neg c31] at H
                                                  have c31b0 : decide ((rd (rd_L4 t188 x29_1) 1) < (rd (rd_L4 x8_1 (ji23)) 1)) = false := decide_eq_false c31
                                                  clear c31
                                                  obtain ⟨y204, hy204⟩ : ∃ y_ : List (List Int), y_ = (([] : List (List Int))) := ⟨_, rfl⟩
                                                  replace H : (if 0 ≤ x15_4 then (if x15_4 ≤ (x8_1.length : Int) then ((some (x8_1.take (x15_4 : Int).toNat : List (List Int))).bind fun y207 => (if y204.length + y207.length < 5864062014805 then ((some (y204 ++ y207 : List (List Int))).bind fun y212 => ((spec_l1Own.f (rd_L4 t188 x29_1)).bind fun t215 => (if y212.length < 5864062014805 then ((some (y212 ++ [t215] : List (List Int))).bind fun y218 => ((some (x8_1.drop (x15_4 : Int).toNat : List (List Int))).bind fun y221 => (if y218.length + y221.length < 5864062014805 then (spec_CrossedPoints.l0 k4 t188 (y218 ++ y221) t188 (t188.length : Int) (wrap64 (x29_1 + 1))) else (none)))) else (none)))) else (none))) else (none)) else (none)) = some (r1, r2) := by first | (rw [hy204]; with_reducible exact H) | (have H2_ := (Option.bind_some _ _).symm.trans H; rw [hy204]; with_reducible exact H2_) | (have H2_ := (Option.bind_some _ _).symm.trans H; with_reducible exact H2_) | with_reducible exact H | (rw [hy204]; exact H) | exact H
                                                  have Ny204 := Aside0.mk hy204
                                                  clear hy204
                                                  by_cases c32 : 0 ≤ x15_4
                                                  · rw [if_pos c32] at H
                                                    have c32b0 := eq_true c32
                                                    have c32b1 : decide (0 ≤ x15_4) = true := decide_eq_true c32
                                                    clear c32
                                                    by_cases c33 : x15_4 ≤ (x8_1.length : Int)
                                                    · rw [if_pos c33] at H
                                                      have c33b0 := eq_true c33
                                                      have c33b1 : decide (x15_4 ≤ (x8_1.length : Int)) = true := decide_eq_true c33
                                                      clear c33
                                                      obtain ⟨y207, hy207⟩ : ∃ y_ : List (List Int), y_ = (x8_1.take (x15_4 : Int).toNat) := ⟨_, rfl⟩
                                                      replace H : (if y204.length + y207.length < 5864062014805 then ((some (y204 ++ y207 : List (List Int))).bind fun y212 => ((spec_l1Own.f (rd_L4 t188 x29_1)).bind fun t215 => (if y212.length < 5864062014805 then ((some (y212 ++ [t215] : List (List Int))).bind fun y218 => ((some (x8_1.drop (x15_4 : Int).toNat : List (List Int))).bind fun y221 => (if y218.length + y221.length < 5864062014805 then (spec_CrossedPoints.l0 k4 t188 (y218 ++ y221) t188 (t188.length : Int) (wrap64 (x29_1 + 1))) else (none)))) else (none)))) else (none)) = some (r1, r2) := by first | (rw [hy207]; with_reducible exact H) | (have H2_ := (Option.bind_some _ _).symm.trans H; rw [hy207]; with_reducible exact H2_) | (have H2_ := (Option.bind_some _ _).symm.trans H; with_reducible exact H2_) | with_reducible exact H | (rw [hy207]; exact H) | exact H
                                                      have Ny207 := Aside0.mk hy207
                                                      clear hy207
                                                      by_cases c34 : y204.length + y207.length < 5864062014805
                                                      · rw [if_pos c34] at H
                                                        have LMc34 := Aside0.mk c34
                                                        clear c34
                                                        obtain ⟨y212, hy212⟩ : ∃ y_ : List (List Int), y_ = (y204 ++ y207) := ⟨_, rfl⟩
                                                        replace H : ((spec_l1Own.f (rd_L4 t188 x29_1)).bind fun t215 => (if y212.length < 5864062014805 then ((some (y212 ++ [t215] : List (List Int))).bind fun y218 => ((some (x8_1.drop (x15_4 : Int).toNat : List (List Int))).bind fun y221 => (if y218.length + y221.length < 5864062014805 then (spec_CrossedPoints.l0 k4 t188 (y218 ++ y221) t188 (t188.length : Int) (wrap64 (x29_1 + 1))) else (none)))) else (none))) = some (r1, r2) := by first | (rw [hy212]; with_reducible exact H) | (have H2_ := (Option.bind_some _ _).symm.trans H; rw [hy212]; with_reducible exact H2_) | (have H2_ := (Option.bind_some _ _).symm.trans H; with_reducible exact H2_) | with_reducible exact H | (rw [hy212]; exact H) | exact H
                                                        have Ny212 := Aside0.mk hy212
                                                        clear hy212
                                                        replace H := Option.bind_eq_some_iff.mp H
                                                        obtain ⟨t215, A350, H⟩ := H
                                                        replace H : (if y212.length < 5864062014805 then ((some (y212 ++ [t215] : List (List Int))).bind fun y218 => ((some (x8_1.drop (x15_4 : Int).toNat : List (List Int))).bind fun y221 => (if y218.length + y221.length < 5864062014805 then (spec_CrossedPoints.l0 k4 t188 (y218 ++ y221) t188 (t188.length : Int) (wrap64 (x29_1 + 1))) else (none)))) else (none)) = some (r1, r2) := H
                                                        have A35 := Aside0.mk A350
                                                        clear A350
                                                        by_cases c36 : y212.length < 5864062014805
                                                        · rw [if_pos c36] at H
                                                          have LMc36 := Aside0.mk c36
                                                          clear c36
                                                          obtain ⟨y218, hy218⟩ : ∃ y_ : List (List Int), y_ = (y212 ++ [t215]) := ⟨_, rfl⟩
                                                          replace H : ((some (x8_1.drop (x15_4 : Int).toNat : List (List Int))).bind fun y221 => (if y218.length + y221.length < 5864062014805 then (spec_CrossedPoints.l0 k4 t188 (y218 ++ y221) t188 (t188.length : Int) (wrap64 (x29_1 + 1))) else (none))) = some (r1, r2) := by first | (rw [hy218]; with_reducible exact H) | (have H2_ := (Option.bind_some _ _).symm.trans H; rw [hy218]; with_reducible exact H2_) | (have H2_ := (Option.bind_some _ _).symm.trans H; with_reducible exact H2_) | with_reducible exact H | (rw [hy218]; exact H) | exact H
                                                          have Ny218 := Aside0.mk hy218
                                                          clear hy218
                                                          have c37b0 := eq_true (of_decide_eq_true (by first | (with_reducible assumption) | assumption) : 0 ≤ x15_4)
                                                          have c38b0 := eq_true (of_decide_eq_true (by first | (with_reducible assumption) | assumption) : x15_4 ≤ (x8_1.length : Int))
                                                          obtain ⟨y221, hy221⟩ : ∃ y_ : List (List Int), y_ = (x8_1.drop (x15_4 : Int).toNat) := ⟨_, rfl⟩
                                                          replace H : (if y218.length + y221.length < 5864062014805 then (spec_CrossedPoints.l0 k4 t188 (y218 ++ y221) t188 (t188.length : Int) (wrap64 (x29_1 + 1))) else (none)) = some (r1, r2) := by first | (rw [hy221]; with_reducible exact H) | (have H2_ := (Option.bind_some _ _).symm.trans H; rw [hy221]; with_reducible exact H2_) | (have H2_ := (Option.bind_some _ _).symm.trans H; with_reducible exact H2_) | with_reducible exact H | (rw [hy221]; exact H) | exact H
                                                          have Ny221 := Aside0.mk hy221
                                                          clear hy221
                                                          by_cases c39 : y218.length + y221.length < 5864062014805
                                                          · rw [if_pos c39] at H
                                                            have LMc39 := Aside0.mk c39
                                                            clear c39
                                                            obtain ⟨y226, hy226⟩ : ∃ y_ : List (List Int), y_ = (y218 ++ y221) := ⟨_, rfl⟩
                                                            replace H : (spec_CrossedPoints.l0 k4 t188 y226 t188 (t188.length : Int) (wrap64 (x29_1 + 1))) = some (r1, r2) := by first | (rw [hy226]; with_reducible exact H) | (have H2_ := (Option.bind_some _ _).symm.trans H; rw [hy226]; with_reducible exact H2_) | (have H2_ := (Option.bind_some _ _).symm.trans H; with_reducible exact H2_) | with_reducible exact H | (rw [hy226]; exact H) | exact H
                                                            have Ny226 := Aside0.mk hy226
                                                            clear hy226
                                                            have H' := Aside0.mk H
                                                            clear H
                                                            have p195 : 0 ≤ (0 : Int) := (by omega)
                                                            have q195 : 0 < ((rd_L4 t188 x29_1).length : Int) := of_decide_eq_true (by first | (with_reducible assumption) | assumption)
                                                            obtain ⟨ad195, e195, hx195_0⟩ := Kd.at_int HR192_0.out 0 p195 q195
                                                            cases e195
                                                            have qi195 : (0 < (rd_L4 t188 x29_1).length) = True := eq_true (by omega)
                                                            (try rw [show ((0 : Int)).toNat = 0 from rfl] at hx195_0)
                                                            (try rw [Addr.add_zero'] at hx195_0)
                                                            first | replace hx195_0 := (HB.out.cell (World.block_lt_of_cell? w _ hx195_0)).trans hx195_0 | skip
                                                            replace p195 := eq_true p195
                                                            replace q195 := eq_true q195
                                                            have p196 : 0 ≤ ((ji23) : Int) := of_decide_eq_true (by first | (with_reducible assumption) | assumption)
                                                            have q196 : (ji23) < (x8_1.length : Int) := of_decide_eq_true (by first | (with_reducible assumption) | assumption)
                                                            obtain ⟨ad196, A196_0, c196_0, e196, hx196_0, hl196_0, hi196_0⟩ := at_L4 (Kd.N_reads' HO_8.out).2.2 (ji23) p196 q196
                                                            cases e196
                                                            obtain ⟨ce196, hce196, hMe196, hcc196⟩ := Kd.N_get HO_8.out [] (ji23) p196 (by first | exact q196 | exact of_decide_eq_true (by first | (with_reducible assumption) | assumption) | (have e_ := (Kd.N_reads' HO_8.out).1; omega))
                                                            obtain ⟨ua196_0, uc196_0, rfl, ul196_0, ge196_0⟩ := Kd.FK_slice_open hMe196
                                                            have hv196_0 := hcc196 0 _ rfl
                                                            rw [Nat.add_zero, show ((Kd.slice 3 (Kd.int .i64))).sz = 1 from rfl, Nat.mul_one] at hv196_0
                                                            replace hv196_0 := Option.some.inj (hv196_0.symm.trans hx196_0)
                                                            injection hv196_0 with hva_ hvn_ hvc_
                                                            rw [hva_] at ge196_0
                                                            rw [hvc_] at ul196_0
                                                            have HL196_0 := Aside0.mk (show Kd.V (Kd.int .i64) 3 _ w.heap.size _ _ (rd_L4 x8_1 (ji23)) from Kd.V_mk ul196_0 ge196_0)
                                                            clear hva_ hvn_ hvc_ ge196_0 ul196_0
                                                            clear hcc196 hce196
                                                            have HR196_0 := Aside0.mk hi196_0
                                                            have HC196_0 := Aside0.mk hl196_0
                                                            clear hi196_0 hl196_0
                                                            replace p196 := eq_true p196
                                                            replace q196 := eq_true q196
                                                            have p197 : 0 ≤ (0 : Int) := (by omega)
                                                            have q197 : 0 < ((rd_L4 x8_1 (ji23)).length : Int) := of_decide_eq_true (by first | (with_reducible assumption) | assumption)
                                                            obtain ⟨ad197, e197, hx197_0⟩ := Kd.at_int (by repeat (first | (with_reducible exact HR196_0.out) | (with_reducible refine Kd.C_alloc ?_ _) | (with_reducible refine Kd.C_drewN ?_ _) | (with_reducible refine Kd.C_drew ?_) | exact HR196_0.out)) 0 p197 q197
                                                            cases e197
                                                            have qi197 : (0 < (rd_L4 x8_1 (ji23)).length) = True := eq_true (by omega)
                                                            (try rw [show ((0 : Int)).toNat = 0 from rfl] at hx197_0)
                                                            (try rw [Addr.add_zero'] at hx197_0)
                                                            replace p197 := eq_true p197
                                                            replace q197 := eq_true q197
                                                            have p198 : 0 ≤ (0 : Int) := (by omega)
                                                            have q198 : 0 < ((rd_L4 t188 x29_1).length : Int) := of_decide_eq_true (by first | (with_reducible assumption) | assumption)
                                                            obtain ⟨ad198, e198, hx198_0⟩ := Kd.at_int HR192_0.out 0 p198 q198
                                                            obtain rfl : ad195 = ad198 := (by injection e198)
                                                            have qi198 : (0 < (rd_L4 t188 x29_1).length) = True := eq_true (by omega)
                                                            (try rw [show ((0 : Int)).toNat = 0 from rfl] at hx198_0)
                                                            (try rw [Addr.add_zero'] at hx198_0)
                                                            first | replace hx198_0 := (HB.out.cell (World.block_lt_of_cell? w _ hx198_0)).trans hx198_0 | skip
                                                            replace p198 := eq_true p198
                                                            replace q198 := eq_true q198
                                                            have p199 : 0 ≤ ((ji23) : Int) := of_decide_eq_true (by first | (with_reducible assumption) | assumption)
                                                            have q199 : (ji23) < (x8_1.length : Int) := of_decide_eq_true (by first | (with_reducible assumption) | assumption)
                                                            obtain ⟨ad199, A199_0, c199_0, e199, hx199_0, hl199_0, hi199_0⟩ := at_L4 (Kd.N_reads' HO_8.out).2.2 (ji23) p199 q199
                                                            obtain rfl : ad196 = ad199 := (by injection e199)
                                                            obtain ⟨ce199, hce199, hMe199, hcc199⟩ := Kd.N_get HO_8.out [] (ji23) p199 (by first | exact q199 | exact of_decide_eq_true (by first | (with_reducible assumption) | assumption) | (have e_ := (Kd.N_reads' HO_8.out).1; omega))
                                                            obtain ⟨ua199_0, uc199_0, rfl, ul199_0, ge199_0⟩ := Kd.FK_slice_open hMe199
                                                            have hv199_0 := hcc199 0 _ rfl
                                                            rw [Nat.add_zero, show ((Kd.slice 3 (Kd.int .i64))).sz = 1 from rfl, Nat.mul_one] at hv199_0
                                                            replace hv199_0 := Option.some.inj (hv199_0.symm.trans hx199_0)
                                                            injection hv199_0 with hva_ hvn_ hvc_
                                                            rw [hva_] at ge199_0
                                                            rw [hvc_] at ul199_0
                                                            have HL199_0 := Aside0.mk (show Kd.V (Kd.int .i64) 3 _ w.heap.size _ _ (rd_L4 x8_1 (ji23)) from Kd.V_mk ul199_0 ge199_0)
                                                            clear hva_ hvn_ hvc_ ge199_0 ul199_0
                                                            clear hcc199 hce199
                                                            have HR199_0 := Aside0.mk hi199_0
                                                            have HC199_0 := Aside0.mk hl199_0
                                                            clear hi199_0 hl199_0
                                                            replace p199 := eq_true p199
                                                            replace q199 := eq_true q199
                                                            have ea_ := Option.some.inj (hx196_0.symm.trans hx199_0)
                                                            injection ea_ with ea_ en_ ec_
                                                            subst ea_
                                                            subst ec_
                                                            clear en_
                                                            have p200 : 0 ≤ (0 : Int) := (by omega)
                                                            have q200 : 0 < ((rd_L4 x8_1 (ji23)).length : Int) := of_decide_eq_true (by first | (with_reducible assumption) | assumption)
                                                            obtain ⟨ad200, e200, hx200_0⟩ := Kd.at_int (by repeat (first | (with_reducible exact HR199_0.out) | (with_reducible refine Kd.C_alloc ?_ _) | (with_reducible refine Kd.C_drewN ?_ _) | (with_reducible refine Kd.C_drew ?_) | exact HR199_0.out)) 0 p200 q200
                                                            cases e200
                                                            have qi200 : (0 < (rd_L4 x8_1 (ji23)).length) = True := eq_true (by omega)
                                                            (try rw [show ((0 : Int)).toNat = 0 from rfl] at hx200_0)
                                                            (try rw [Addr.add_zero'] at hx200_0)
                                                            replace p200 := eq_true p200
                                                            replace q200 := eq_true q200
                                                            have p201 : 0 ≤ (1 : Int) := (by omega)
                                                            have q201 : 1 < ((rd_L4 t188 x29_1).length : Int) := of_decide_eq_true (by first | (with_reducible assumption) | assumption)
                                                            obtain ⟨ad201, e201, hx201_0⟩ := Kd.at_int HR192_0.out 1 p201 q201
                                                            obtain rfl : ad195 = ad201 := (by injection e201)
                                                            (try simp only [show (1 : Int).toNat = 1 from rfl, Nat.reduceMul, Nat.reduceEqDiff, Go.Addr.add, ↓reduceIte] at hx201_0)
                                                            have qi201 : (1 < (rd_L4 t188 x29_1).length) = True := eq_true (by omega)
                                                            (try rw [show ((1 : Int)).toNat = 1 from rfl] at hx201_0)
                                                            first | replace hx201_0 := (HB.out.cell (World.block_lt_of_cell? w _ hx201_0)).trans hx201_0 | skip
                                                            replace p201 := eq_true p201
                                                            replace q201 := eq_true q201
                                                            have p202 : 0 ≤ ((ji23) : Int) := of_decide_eq_true (by first | (with_reducible assumption) | assumption)
                                                            have q202 : (ji23) < (x8_1.length : Int) := of_decide_eq_true (by first | (with_reducible assumption) | assumption)
                                                            obtain ⟨ad202, A202_0, c202_0, e202, hx202_0, hl202_0, hi202_0⟩ := at_L4 (Kd.N_reads' HO_8.out).2.2 (ji23) p202 q202
                                                            obtain rfl : ad196 = ad202 := (by injection e202)
                                                            obtain ⟨ce202, hce202, hMe202, hcc202⟩ := Kd.N_get HO_8.out [] (ji23) p202 (by first | exact q202 | exact of_decide_eq_true (by first | (with_reducible assumption) | assumption) | (have e_ := (Kd.N_reads' HO_8.out).1; omega))
                                                            obtain ⟨ua202_0, uc202_0, rfl, ul202_0, ge202_0⟩ := Kd.FK_slice_open hMe202
                                                            have hv202_0 := hcc202 0 _ rfl
                                                            rw [Nat.add_zero, show ((Kd.slice 3 (Kd.int .i64))).sz = 1 from rfl, Nat.mul_one] at hv202_0
                                                            replace hv202_0 := Option.some.inj (hv202_0.symm.trans hx202_0)
                                                            injection hv202_0 with hva_ hvn_ hvc_
                                                            rw [hva_] at ge202_0
                                                            rw [hvc_] at ul202_0
                                                            have HL202_0 := Aside0.mk (show Kd.V (Kd.int .i64) 3 _ w.heap.size _ _ (rd_L4 x8_1 (ji23)) from Kd.V_mk ul202_0 ge202_0)
                                                            clear hva_ hvn_ hvc_ ge202_0 ul202_0
                                                            clear hcc202 hce202
                                                            have HR202_0 := Aside0.mk hi202_0
                                                            have HC202_0 := Aside0.mk hl202_0
                                                            clear hi202_0 hl202_0
                                                            replace p202 := eq_true p202
                                                            replace q202 := eq_true q202
                                                            have ea_ := Option.some.inj (hx196_0.symm.trans hx202_0)
                                                            injection ea_ with ea_ en_ ec_
                                                            subst ea_
                                                            subst ec_
                                                            clear en_
                                                            have p203 : 0 ≤ (1 : Int) := (by omega)
                                                            have q203 : 1 < ((rd_L4 x8_1 (ji23)).length : Int) := of_decide_eq_true (by first | (with_reducible assumption) | assumption)
                                                            obtain ⟨ad203, e203, hx203_0⟩ := Kd.at_int (by repeat (first | (with_reducible exact HR202_0.out) | (with_reducible refine Kd.C_alloc ?_ _) | (with_reducible refine Kd.C_drewN ?_ _) | (with_reducible refine Kd.C_drew ?_) | exact HR202_0.out)) 1 p203 q203
                                                            cases e203
                                                            (try simp only [show (1 : Int).toNat = 1 from rfl, Nat.reduceMul, Nat.reduceEqDiff, Go.Addr.add, ↓reduceIte] at hx203_0)
                                                            have qi203 : (1 < (rd_L4 x8_1 (ji23)).length) = True := eq_true (by omega)
                                                            (try rw [show ((1 : Int)).toNat = 1 from rfl] at hx203_0)
                                                            replace p203 := eq_true p203
                                                            replace q203 := eq_true q203
                                                            go_wp2_with (fail)
                                                            go_quiet (fail)
                                                            go_wp2_with (first | ((with_reducible refine gate_dst (N := 104) rfl ?_); refine Kd.N_lit (Kd.slice 3 (Kd.int .i64)) _ 36 ?hg (N' := 104) ?hd (xs := ([] : List (List Int))) (inner := []) (ok := (fun k_ => (w.heap.size ≤ k_) ∧ some k_ ≠ (.slice (some ad192) t188.length co7 : Value).ownBlock ∧ some k_ ≠ (.slice (some ad196) x8_1.length co20 : Value).ownBlock ∧ some k_ ≠ (.slice (some ad192) t188.length co7 : Value).ownBlock)) (okp := (fun k_ => (w.heap.size ≤ k_) ∧ some k_ ≠ (.slice (some ad192) t188.length co7 : Value).ownBlock ∧ some k_ ≠ (.slice (some ad196) x8_1.length co20 : Value).ownBlock ∧ some k_ ≠ (.slice (some ad192) t188.length co7 : Value).ownBlock)) ?hr ?hp (fun _ hk => hk) ((show ∀ k_, wr.heap.size ≤ k_ → (fun k_ => (w.heap.size ≤ k_) ∧ some k_ ≠ (.slice (some ad192) t188.length co7 : Value).ownBlock ∧ some k_ ≠ (.slice (some ad196) x8_1.length co20 : Value).ownBlock ∧ some k_ ≠ (.slice (some ad192) t188.length co7 : Value).ownBlock) k_ from fun k_ hk => ⟨(Nat.le_trans (below_size (by repeat (first | (with_reducible first | exact HB.out | apply below_alloc | apply pw_below_drewN | apply below_drew1) | exact HB.out))) hk), Kd.fresh' (Kd.N_lt (by (with_reducible repeat (first | apply Kd.N_alloc | apply Kd.N_drewN | apply Kd.N_drew)); exact HO_6.out)) k_ hk, Kd.fresh' (Kd.N_lt (by (with_reducible repeat (first | apply Kd.N_alloc | apply Kd.N_drewN | apply Kd.N_drew)); exact HO_8.out)) k_ hk, Kd.fresh' (Kd.N_lt (by (with_reducible repeat (first | apply Kd.N_alloc | apply Kd.N_drewN | apply Kd.N_drew)); exact HO_27.out)) k_ hk⟩) _ (Nat.le_refl _)) (Below.refl _ _) (Nat.le_refl _) (by simp) ?_; (case hd => rfl); (case hg => rfl); (case hr => first | (go_simp; done) | (go_simp; rfl)); (case hp => exact (Reps.none _ _)); intro v205 w40 ho41 hb hg_ hnew_; have HRX0_ := Kd.C_drewN HR192_0.out nq; have HRX1_ := C_hold HRX0_ hb hnew_; have HRX_ := Aside0.mk HRX1_; clear HRX0_ HRX1_; clear hg_ hnew_; (first | rw [← Ny204.out] at ho41 | (simp only [Int.reduceToNat] at ho41; rw [← Ny204.out] at ho41)); have n0_ := Aside0.mk (Kd.N_elder' (by (with_reducible repeat (first | apply Kd.N_alloc | apply Kd.N_drewN | apply Kd.N_drew)); exact HO_6.out) (Kd.N_base ho41) hb); have n1_ := Aside0.mk (Kd.N_elder' (by (with_reducible repeat (first | apply Kd.N_alloc | apply Kd.N_drewN | apply Kd.N_drew)); exact HO_8.out) (Kd.N_base ho41) hb); have n2_ := Aside0.mk (Kd.N_elder' (by (with_reducible repeat (first | apply Kd.N_alloc | apply Kd.N_drewN | apply Kd.N_drew)); exact HO_27.out) (Kd.N_base ho41) hb); have n3_ := Aside0.mk (Kd.V_elder' (by (with_reducible repeat (first | apply Kd.V_alloc | apply Kd.V_drewN | apply Kd.V_drew)); exact HL196_0.out) (Kd.N_base ho41) hb); have n4_ := Aside0.mk (Kd.V_elder' (by (with_reducible repeat (first | apply Kd.V_alloc | apply Kd.V_drewN | apply Kd.V_drew)); exact HL199_0.out) (Kd.N_base ho41) hb); have n5_ := Aside0.mk (Kd.V_elder' (by (with_reducible repeat (first | apply Kd.V_alloc | apply Kd.V_drewN | apply Kd.V_drew)); exact HL202_0.out) (Kd.N_base ho41) hb); have n6_ := Aside0.mk (Kd.N_lower ho41 (below_size (by repeat (first | (with_reducible first | exact HB.out | apply below_alloc | apply pw_below_drewN | apply below_drew1) | exact HB.out)))); have n7_ := Aside0.mk (Kd.C_below (by first | (with_reducible exact Kd.C_drewN HR192_0.out _) | repeat (first | (with_reducible exact HR192_0.out) | (with_reducible refine Kd.C_alloc ?_ _) | (with_reducible refine Kd.C_drewN ?_ _) | (with_reducible refine Kd.C_drew ?_) | exact HR192_0.out)) hb); have n8_ := Aside0.mk (Kd.C_below (by first | (with_reducible exact Kd.C_drewN HR196_0.out _) | repeat (first | (with_reducible exact HR196_0.out) | (with_reducible refine Kd.C_alloc ?_ _) | (with_reducible refine Kd.C_drewN ?_ _) | (with_reducible refine Kd.C_drew ?_) | exact HR196_0.out)) hb); have n9_ := Aside0.mk (Kd.C_below (by first | (with_reducible exact Kd.C_drewN HR199_0.out _) | repeat (first | (with_reducible exact HR199_0.out) | (with_reducible refine Kd.C_alloc ?_ _) | (with_reducible refine Kd.C_drewN ?_ _) | (with_reducible refine Kd.C_drew ?_) | exact HR199_0.out)) hb); have n10_ := Aside0.mk (Kd.C_below (by first | (with_reducible exact Kd.C_drewN HR202_0.out _) | repeat (first | (with_reducible exact HR202_0.out) | (with_reducible refine Kd.C_alloc ?_ _) | (with_reducible refine Kd.C_drewN ?_ _) | (with_reducible refine Kd.C_drew ?_) | exact HR202_0.out)) hb); have n11_ := Aside0.mk (below_step (by repeat (first | (with_reducible first | exact HB.out | apply below_alloc | apply pw_below_drewN | apply below_drew1) | exact HB.out)) hb); clear HO_6; clear HO_8; clear HO_27; clear HL196_0; clear HL199_0; clear HL202_0; clear HR192_0; clear HR196_0; clear HR199_0; clear HR202_0; clear HB; have HO_6 := n0_; have HO_8 := n1_; have HO_27 := n2_; have HL196_0 := n3_; have HL199_0 := n4_; have HL202_0 := n5_; have HO206 := n6_; have HR192_0 := n7_; have HR196_0 := n8_; have HR199_0 := n9_; have HR202_0 := n10_; have HB := n11_; clear n0_ n1_ n2_ n3_ n4_ n5_ n6_ n7_ n8_ n9_ n10_ n11_; clear hb ho41; have q42 : (x15_4 : Int) ≤ ((x8_1.length : Int) : Int) := of_decide_eq_true (by first | (with_reducible assumption) | assumption); obtain ⟨i042, hi042, _, hsz42, _⟩ := info_parts info36; have hroom42 : x8_1.length ≤ co20 := (Kd.N_reads' HO_8.out).2.1; have hC42 : Kd.F (Kd.slice 3 (Kd.int .i64)) _ _ (some ad196) x8_1.length x8_1 := (Kd.V_at (base := w.heap.size) (Kd.N_V HO_8.out)).2.2; have hcut42 := cut_to (P := Tryd.prog) 25 36 .i64 Tryd.underlying25 hi042 (some ad196) x8_1.length co20 x15_4 (of_decide_eq_true (by first | (with_reducible assumption) | assumption)) q42 hroom42; have hr42 := Kd.F_take (m := (x15_4 : Int).toNat) hC42 (by omega); have hy42 : y207.length = (x15_4 : Int).toNat := (by rw [Ny207.out, List.length_take]; omega); rw [← Ny207.out] at hr42; rw [← hy42] at hcut42; have HO211 := Aside0.mk (show Kd.V (Kd.slice 3 (Kd.int .i64)) 36 _ w.heap.size _ (.slice (some ad196) y207.length co20) y207 from Kd.V_mk (by omega) hr42); have HC211 := Aside0.mk (show y207.length ≤ co20 from by omega); clear hr42 hC42 hroom42 hi042 hsz42; have KY42 := Aside0.mk hy42; clear hy42; replace q42 := eq_true q42) | ((with_reducible refine gate_builtin (b := .append) (xs := #[.tmp 104, .tmp 107]) rfl ?_); at_builtin; refine Kd.N_append_rows (Kd.slice 3 (Kd.int .i64)) (w0 := w) w.heap.size rfl (.tmp 104) (.tmp 107) 25 36 (.slice none 0 0) 24 rfl Tryd.underlying25 info36 rfl (by decide) (by omega) v205 y204 y207 _ _ _ (fun k_ => (w.heap.size ≤ k_) ∧ some k_ ≠ (.slice (some ad192) t188.length co7 : Value).ownBlock ∧ some k_ ≠ (.slice (some ad192) t188.length co7 : Value).ownBlock) (fun k_ => ((fun k_ => (w.heap.size ≤ k_) ∧ some k_ ≠ (.slice (some ad192) t188.length co7 : Value).ownBlock ∧ some k_ ≠ (.slice (some ad192) t188.length co7 : Value).ownBlock)) k_ ∧ some k_ ≠ (v205 : Value).ownBlock) rfl rfl ?aO ?aR (fun _ hk => hk) ?aF ?aB ?aS ?aL ?_; (case aR => exact (by skip; exact Kd.V_F (Kd.V_mono (ok' := (fun k_ => ((fun k_ => (w.heap.size ≤ k_) ∧ some k_ ≠ (.slice (some ad192) t188.length co7 : Value).ownBlock ∧ some k_ ≠ (.slice (some ad192) t188.length co7 : Value).ownBlock)) k_ ∧ some k_ ≠ (v205 : Value).ownBlock)) (HO211.out) (fun k_ hk => ⟨⟨hk.1.1, ⟨hk.1.2.1, hk.1.2.2⟩⟩, hk.2⟩)))); (case aB => exact (by repeat (first | (with_reducible first | exact HB.out | apply below_alloc | apply pw_below_drewN | apply below_drew1) | exact HB.out))); (case aF => exact (fun k_ hk => ⟨(Nat.le_trans (below_size (by repeat (first | (with_reducible first | exact HB.out | apply below_alloc | apply pw_below_drewN | apply below_drew1) | exact HB.out))) hk), Kd.fresh' (Kd.N_lt (by (with_reducible repeat (first | apply Kd.N_alloc | apply Kd.N_drewN | apply Kd.N_drew)); exact HO_6.out)) k_ hk, Kd.fresh' (Kd.N_lt (by (with_reducible repeat (first | apply Kd.N_alloc | apply Kd.N_drewN | apply Kd.N_drew)); exact HO_27.out)) k_ hk⟩)); (case aO => exact (by (with_reducible repeat (first | apply Kd.N_alloc | apply Kd.N_drewN | apply Kd.N_drew)); exact Kd.N_mono HO206.out (fun _ hk => ⟨hk.1, ⟨hk.2.1, hk.2.2.2⟩⟩))); (case aS => exact (below_size (by repeat (first | (with_reducible first | exact HB.out | apply below_alloc | apply pw_below_drewN | apply below_drew1) | exact HB.out)))); (case aL => have := LMc34.out; omega); intro v213 w43 ho hb hg hat; have nX_ := Aside0.mk (HRX_.out _ hg); clear HR192_0; have HR192_0 := nX_; clear nX_; rw [← Ny212.out] at ho; have n0_ := Aside0.mk (Kd.N_afterv (ok := (fun k_ => (w.heap.size ≤ k_) ∧ some k_ ≠ (.slice (some ad196) x8_1.length co20 : Value).ownBlock)) (by (with_reducible repeat (first | apply Kd.N_alloc | apply Kd.N_drewN | apply Kd.N_drew)); exact HO_6.out) hg hat); have n1_ := Aside0.mk (Kd.N_afterv (ok := (fun k_ => (w.heap.size ≤ k_) ∧ some k_ ≠ (.slice (some ad192) t188.length co7 : Value).ownBlock ∧ some k_ ≠ (.slice (some ad192) t188.length co7 : Value).ownBlock)) (by (with_reducible repeat (first | apply Kd.N_alloc | apply Kd.N_drewN | apply Kd.N_drew)); exact HO_8.out) hg hat); have n2_ := Aside0.mk (Kd.N_afterv (ok := (fun k_ => (w.heap.size ≤ k_) ∧ some k_ ≠ (.slice (some ad196) x8_1.length co20 : Value).ownBlock)) (by (with_reducible repeat (first | apply Kd.N_alloc | apply Kd.N_drewN | apply Kd.N_drew)); exact HO_27.out) hg hat); have n3_ := Aside0.mk (Kd.V_afterv (ok := (fun k_ => (w.heap.size ≤ k_) ∧ some k_ ≠ (.slice (some ad192) t188.length co7 : Value).ownBlock ∧ some k_ ≠ (.slice (some ad196) x8_1.length co20 : Value).ownBlock ∧ some k_ ≠ (.slice (some ad192) t188.length co7 : Value).ownBlock)) (by (with_reducible repeat (first | apply Kd.V_alloc | apply Kd.V_drewN | apply Kd.V_drew)); exact Kd.V_mono HL196_0.out (fun _ hk => ⟨⟨hk.1.1.1, ⟨hk.1.1.2.1, ⟨hk.1.2, hk.1.1.2.2⟩⟩⟩, hk.2⟩)) hg hat); have n4_ := Aside0.mk (Kd.V_afterv (ok := (fun k_ => (w.heap.size ≤ k_) ∧ some k_ ≠ (.slice (some ad192) t188.length co7 : Value).ownBlock ∧ some k_ ≠ (.slice (some ad196) x8_1.length co20 : Value).ownBlock ∧ some k_ ≠ (.slice (some ad192) t188.length co7 : Value).ownBlock)) (by (with_reducible repeat (first | apply Kd.V_alloc | apply Kd.V_drewN | apply Kd.V_drew)); exact Kd.V_mono HL199_0.out (fun _ hk => ⟨⟨hk.1.1.1, ⟨hk.1.1.2.1, ⟨hk.1.2, hk.1.1.2.2⟩⟩⟩, hk.2⟩)) hg hat); have n5_ := Aside0.mk (Kd.V_afterv (ok := (fun k_ => (w.heap.size ≤ k_) ∧ some k_ ≠ (.slice (some ad192) t188.length co7 : Value).ownBlock ∧ some k_ ≠ (.slice (some ad196) x8_1.length co20 : Value).ownBlock ∧ some k_ ≠ (.slice (some ad192) t188.length co7 : Value).ownBlock)) (by (with_reducible repeat (first | apply Kd.V_alloc | apply Kd.V_drewN | apply Kd.V_drew)); exact Kd.V_mono HL202_0.out (fun _ hk => ⟨⟨hk.1.1.1, ⟨hk.1.1.2.1, ⟨hk.1.2, hk.1.1.2.2⟩⟩⟩, hk.2⟩)) hg hat); have n6_ := Aside0.mk (Kd.V_afterv (ok := (fun k_ => (w.heap.size ≤ k_) ∧ some k_ ≠ (.slice (some ad192) t188.length co7 : Value).ownBlock ∧ some k_ ≠ (.slice (some ad192) t188.length co7 : Value).ownBlock)) (by (with_reducible repeat (first | apply Kd.V_alloc | apply Kd.V_drewN | apply Kd.V_drew)); exact HO211.out) hg hat); have n7_ := Aside0.mk (hb); have n8_ := Aside0.mk (ho); clear HO_6; clear HO_8; clear HO_27; clear HL196_0; clear HL199_0; clear HL202_0; clear HO211; clear HB; clear HO206; have HO_6 := n0_; have HO_8 := n1_; have HO_27 := n2_; have HL196_0 := n3_; have HL199_0 := n4_; have HL202_0 := n5_; have HO211 := n6_; have HB := n7_; have HO214 := n8_; clear n0_ n1_ n2_ n3_ n4_ n5_ n6_ n7_ n8_; clear ho hb hg hat) | (go_at_call 22; (with_reducible refine (spec_l1Own.calls _ _ (rd_L4 t188 x29_1) t215 _ ?side1 ?side2 A35.out).mono ?_); (case side1 => repeat (first | exact HR192_0.out | (with_reducible refine Kd.C_alloc ?_ _) | (with_reducible refine Kd.C_drewN ?_ _) | (with_reducible refine Kd.C_drew ?_))); (case side2 => exact HC192_0.out); rintro e w44 ⟨v216, rfl, ho0, hb⟩; have n0_ := Aside0.mk (Kd.N_elder' (by (with_reducible repeat (first | apply Kd.N_alloc | apply Kd.N_drewN | apply Kd.N_drew)); exact HO_6.out) (Kd.R_base ho0) hb); have n1_ := Aside0.mk (Kd.N_elder' (by (with_reducible repeat (first | apply Kd.N_alloc | apply Kd.N_drewN | apply Kd.N_drew)); exact HO_8.out) (Kd.R_base ho0) hb); have n2_ := Aside0.mk (Kd.N_elder' (by (with_reducible repeat (first | apply Kd.N_alloc | apply Kd.N_drewN | apply Kd.N_drew)); exact HO_27.out) (Kd.R_base ho0) hb); have n3_ := Aside0.mk (Kd.V_elder' (by (with_reducible repeat (first | apply Kd.V_alloc | apply Kd.V_drewN | apply Kd.V_drew)); exact HL196_0.out) (Kd.R_base ho0) hb); have n4_ := Aside0.mk (Kd.V_elder' (by (with_reducible repeat (first | apply Kd.V_alloc | apply Kd.V_drewN | apply Kd.V_drew)); exact HL199_0.out) (Kd.R_base ho0) hb); have n5_ := Aside0.mk (Kd.V_elder' (by (with_reducible repeat (first | apply Kd.V_alloc | apply Kd.V_drewN | apply Kd.V_drew)); exact HL202_0.out) (Kd.R_base ho0) hb); have n6_ := Aside0.mk (Kd.V_elder' (by (with_reducible repeat (first | apply Kd.V_alloc | apply Kd.V_drewN | apply Kd.V_drew)); exact HO211.out) (Kd.R_base ho0) hb); have n7_ := Aside0.mk (Kd.N_elder' (by (with_reducible repeat (first | apply Kd.N_alloc | apply Kd.N_drewN | apply Kd.N_drew)); exact HO214.out) (Kd.R_base ho0) hb); have n8_ := Aside0.mk (Kd.R_lower (Kd.R_newM (M := fun k_ => (w.heap.size ≤ k_)) ho0 (below_size (by repeat (first | (with_reducible first | exact HB.out | apply below_alloc | apply pw_below_drewN | apply below_drew1) | exact HB.out))) (fun k_ h_ => h_)) (below_size (by repeat (first | (with_reducible first | exact HB.out | apply below_alloc | apply pw_below_drewN | apply below_drew1) | exact HB.out)))); have n9_ := Aside0.mk (below_step (by repeat (first | (with_reducible first | exact HB.out | apply below_alloc | apply pw_below_drewN | apply below_drew1) | exact HB.out)) hb); clear HO_6; clear HO_8; clear HO_27; clear HL196_0; clear HL199_0; clear HL202_0; clear HO211; clear HO214; clear HB; have HO_6 := n0_; have HO_8 := n1_; have HO_27 := n2_; have HL196_0 := n3_; have HL199_0 := n4_; have HL202_0 := n5_; have HO211 := n6_; have HO214 := n7_; have HO217 := n8_; have HB := n9_; clear n0_ n1_ n2_ n3_ n4_ n5_ n6_ n7_ n8_ n9_; (try clear hb); (try clear hb2); (try clear hk); (try clear hi); (try clear ho0); obtain ⟨Ao46, co46, eo46⟩ := Kd.R_slice HO217.out; subst eo46) | ((with_reducible refine gate_builtin (b := .append) (xs := #[.tmp 108, .tmp 111]) rfl ?_); at_builtin; refine Kd.N_append (Kd.slice 3 (Kd.int .i64)) (w0 := w) w.heap.size rfl (.tmp 108) (.tmp 111) 25 36 (.slice none 0 0) 24 rfl Tryd.underlying25 info36 rfl (by decide) (by omega) v213 y212 t215 [.slice Ao46 t215.length co46] (fun k_ => (w.heap.size ≤ k_) ∧ some k_ ≠ (.slice (some ad192) t188.length co7 : Value).ownBlock ∧ some k_ ≠ (.slice (some ad192) t188.length co7 : Value).ownBlock) (fun k_ => ((fun k_ => (w.heap.size ≤ k_) ∧ some k_ ≠ (.slice (some ad192) t188.length co7 : Value).ownBlock ∧ some k_ ≠ (.slice (some ad192) t188.length co7 : Value).ownBlock)) k_ ∧ some k_ ≠ (v213 : Value).ownBlock) rfl rfl ?aP (fun _ hk => hk) ?aF ?aO ?aB ?aS ?aL ?_; (case aP => exact (Kd.FK_slice_mk (Kd.R_reads' (Kd.R_mono (ok' := (fun k_ => ((fun k_ => (w.heap.size ≤ k_) ∧ some k_ ≠ (.slice (some ad192) t188.length co7 : Value).ownBlock ∧ some k_ ≠ (.slice (some ad192) t188.length co7 : Value).ownBlock)) k_ ∧ some k_ ≠ (v213 : Value).ownBlock)) (Kd.R_apart' (Kd.R_apart' (Kd.R_apart' (HO217.out) (Kd.N_typed HO_6.out) (by decide)) (Kd.N_typed HO_27.out) (by decide)) (Kd.N_typed HO214.out) (by decide)) (fun k_ hk => ⟨⟨hk.1.1.1.1, ⟨hk.1.1.2, hk.1.2⟩⟩, hk.2⟩))).2.1 (Kd.R_F (Kd.R_mono (ok' := (fun k_ => ((fun k_ => (w.heap.size ≤ k_) ∧ some k_ ≠ (.slice (some ad192) t188.length co7 : Value).ownBlock ∧ some k_ ≠ (.slice (some ad192) t188.length co7 : Value).ownBlock)) k_ ∧ some k_ ≠ (v213 : Value).ownBlock)) (Kd.R_apart' (Kd.R_apart' (Kd.R_apart' (HO217.out) (Kd.N_typed HO_6.out) (by decide)) (Kd.N_typed HO_27.out) (by decide)) (Kd.N_typed HO214.out) (by decide)) (fun k_ hk => ⟨⟨hk.1.1.1.1, ⟨hk.1.1.2, hk.1.2⟩⟩, hk.2⟩))))); (case aB => exact (by repeat (first | (with_reducible first | exact HB.out | apply below_alloc | apply pw_below_drewN | apply below_drew1) | exact HB.out))); (case aF => exact (fun k_ hk => ⟨(Nat.le_trans (below_size (by repeat (first | (with_reducible first | exact HB.out | apply below_alloc | apply pw_below_drewN | apply below_drew1) | exact HB.out))) hk), Kd.fresh' (Kd.N_lt (by (with_reducible repeat (first | apply Kd.N_alloc | apply Kd.N_drewN | apply Kd.N_drew)); exact HO_6.out)) k_ hk, Kd.fresh' (Kd.N_lt (by (with_reducible repeat (first | apply Kd.N_alloc | apply Kd.N_drewN | apply Kd.N_drew)); exact HO_27.out)) k_ hk⟩)); (case aO => exact (by (with_reducible repeat (first | apply Kd.N_alloc | apply Kd.N_drewN | apply Kd.N_drew)); exact Kd.N_mono HO214.out (fun _ hk => ⟨hk.1.1, ⟨hk.1.2.1, hk.1.2.2⟩⟩))); (case aS => exact (below_size (by repeat (first | (with_reducible first | exact HB.out | apply below_alloc | apply pw_below_drewN | apply below_drew1) | exact HB.out)))); (case aL => have := LMc36.out; omega); intro v219 w45 ho hb hg hat; rw [← Ny218.out] at ho; have n0_ := Aside0.mk (Kd.N_afterv (ok := (fun k_ => (w.heap.size ≤ k_) ∧ some k_ ≠ (.slice (some ad196) x8_1.length co20 : Value).ownBlock ∧ some k_ ≠ (.slice Ao46 t215.length co46 : Value).ownBlock)) (by (with_reducible repeat (first | apply Kd.N_alloc | apply Kd.N_drewN | apply Kd.N_drew)); exact Kd.N_mono HO_6.out (fun _ hk => ⟨⟨hk.1.1.1, ⟨hk.1.1.2, hk.2⟩⟩, hk.1.2⟩)) hg hat); have n1_ := Aside0.mk (Kd.N_afterv (ok := (fun k_ => (w.heap.size ≤ k_) ∧ some k_ ≠ (.slice (some ad192) t188.length co7 : Value).ownBlock ∧ some k_ ≠ (.slice (some ad192) t188.length co7 : Value).ownBlock ∧ some k_ ≠ (.slice Ao46 t215.length co46 : Value).ownBlock)) (by (with_reducible repeat (first | apply Kd.N_alloc | apply Kd.N_drewN | apply Kd.N_drew)); exact Kd.N_mono HO_8.out (fun _ hk => ⟨⟨hk.1.1.1, ⟨hk.1.1.2.1, ⟨hk.1.1.2.2, hk.2⟩⟩⟩, hk.1.2⟩)) hg hat); have n2_ := Aside0.mk (Kd.N_afterv (ok := (fun k_ => (w.heap.size ≤ k_) ∧ some k_ ≠ (.slice (some ad196) x8_1.length co20 : Value).ownBlock ∧ some k_ ≠ (.slice Ao46 t215.length co46 : Value).ownBlock)) (by (with_reducible repeat (first | apply Kd.N_alloc | apply Kd.N_drewN | apply Kd.N_drew)); exact Kd.N_mono HO_27.out (fun _ hk => ⟨⟨hk.1.1.1, ⟨hk.1.1.2, hk.2⟩⟩, hk.1.2⟩)) hg hat); have n3_ := Aside0.mk (Kd.V_afterv (ok := (fun k_ => (w.heap.size ≤ k_) ∧ some k_ ≠ (.slice (some ad192) t188.length co7 : Value).ownBlock ∧ some k_ ≠ (.slice (some ad196) x8_1.length co20 : Value).ownBlock ∧ some k_ ≠ (.slice (some ad192) t188.length co7 : Value).ownBlock ∧ some k_ ≠ (.slice Ao46 t215.length co46 : Value).ownBlock)) (by (with_reducible repeat (first | apply Kd.V_alloc | apply Kd.V_drewN | apply Kd.V_drew)); exact Kd.V_mono HL196_0.out (fun _ hk => ⟨⟨hk.1.1.1, ⟨hk.1.1.2.1, ⟨hk.1.1.2.2.1, ⟨hk.1.1.2.2.2, hk.2⟩⟩⟩⟩, hk.1.2⟩)) hg hat); have n4_ := Aside0.mk (Kd.V_afterv (ok := (fun k_ => (w.heap.size ≤ k_) ∧ some k_ ≠ (.slice (some ad192) t188.length co7 : Value).ownBlock ∧ some k_ ≠ (.slice (some ad196) x8_1.length co20 : Value).ownBlock ∧ some k_ ≠ (.slice (some ad192) t188.length co7 : Value).ownBlock ∧ some k_ ≠ (.slice Ao46 t215.length co46 : Value).ownBlock)) (by (with_reducible repeat (first | apply Kd.V_alloc | apply Kd.V_drewN | apply Kd.V_drew)); exact Kd.V_mono HL199_0.out (fun _ hk => ⟨⟨hk.1.1.1, ⟨hk.1.1.2.1, ⟨hk.1.1.2.2.1, ⟨hk.1.1.2.2.2, hk.2⟩⟩⟩⟩, hk.1.2⟩)) hg hat); have n5_ := Aside0.mk (Kd.V_afterv (ok := (fun k_ => (w.heap.size ≤ k_) ∧ some k_ ≠ (.slice (some ad192) t188.length co7 : Value).ownBlock ∧ some k_ ≠ (.slice (some ad196) x8_1.length co20 : Value).ownBlock ∧ some k_ ≠ (.slice (some ad192) t188.length co7 : Value).ownBlock ∧ some k_ ≠ (.slice Ao46 t215.length co46 : Value).ownBlock)) (by (with_reducible repeat (first | apply Kd.V_alloc | apply Kd.V_drewN | apply Kd.V_drew)); exact Kd.V_mono HL202_0.out (fun _ hk => ⟨⟨hk.1.1.1, ⟨hk.1.1.2.1, ⟨hk.1.1.2.2.1, ⟨hk.1.1.2.2.2, hk.2⟩⟩⟩⟩, hk.1.2⟩)) hg hat); have n6_ := Aside0.mk (Kd.V_afterv (ok := (fun k_ => (w.heap.size ≤ k_) ∧ some k_ ≠ (.slice (some ad192) t188.length co7 : Value).ownBlock ∧ some k_ ≠ (.slice (some ad192) t188.length co7 : Value).ownBlock ∧ some k_ ≠ (.slice Ao46 t215.length co46 : Value).ownBlock)) (by (with_reducible repeat (first | apply Kd.V_alloc | apply Kd.V_drewN | apply Kd.V_drew)); exact Kd.V_mono HO211.out (fun _ hk => ⟨⟨hk.1.1.1, ⟨hk.1.1.2.1, ⟨hk.1.1.2.2, hk.2⟩⟩⟩, hk.1.2⟩)) hg hat); have n7_ := Aside0.mk (hb); have n8_ := Aside0.mk (ho); clear HO_6; clear HO_8; clear HO_27; clear HL196_0; clear HL199_0; clear HL202_0; clear HO211; clear HB; clear HO214; clear HO217; have HO_6 := n0_; have HO_8 := n1_; have HO_27 := n2_; have HL196_0 := n3_; have HL199_0 := n4_; have HL202_0 := n5_; have HO211 := n6_; have HB := n7_; have HO220 := n8_; clear n0_ n1_ n2_ n3_ n4_ n5_ n6_ n7_ n8_; clear ho hb hg hat; have q47 : (x15_4 : Int) ≤ ((x8_1.length : Int) : Int) := of_decide_eq_true (by first | (with_reducible assumption) | assumption); obtain ⟨i047, hi047, _, hsz47, _⟩ := info_parts info36; have hroom47 : x8_1.length ≤ co20 := (Kd.N_reads' HO_8.out).2.1; have hC47 : Kd.F (Kd.slice 3 (Kd.int .i64)) _ _ (some ad196) x8_1.length x8_1 := (Kd.V_at (base := w.heap.size) (Kd.N_V HO_8.out)).2.2; have q047 : (0 : Int) ≤ (x15_4 : Int) := of_decide_eq_true (by first | (with_reducible assumption) | assumption); have hcut47 := cut_from (P := Tryd.prog) 25 36 .i64 Tryd.underlying25 hi047 1 hsz47 (some ad196) x8_1.length co20 x15_4 q047 q47; have hr47 := Kd.F_cut (m := (x15_4 : Int).toNat) (c := co20) hC47 (by omega) hroom47; obtain ⟨A47, hA47⟩ : ∃ AX_, AX_ = (if co20 = (x15_4 : Int).toNat then (some ad196) else ((some ad196) : Option Addr).map (·.add ((x15_4 : Int).toNat * 1))) := ⟨_, rfl⟩; obtain ⟨c47, hc47⟩ : ∃ cX_, cX_ = co20 - (x15_4 : Int).toNat := ⟨_, rfl⟩; have hy47 : y221.length = x8_1.length - (x15_4 : Int).toNat := (by rw [Ny221.out, List.length_drop] <;> omega); rw [show (x8_1).drop (x15_4 : Int).toNat = y221 from Ny221.out.symm] at hr47; replace hr47 : Kd.F (Kd.slice 3 (Kd.int .i64)) _ _ A47 y221.length y221 := (by rw [hA47]; exact hr47); rw [← hy47, ← hA47, ← hc47] at hcut47; have HO225 := Aside0.mk (show Kd.V (Kd.slice 3 (Kd.int .i64)) 36 _ w.heap.size _ (.slice A47 y221.length c47) y221 from Kd.V_mk (by rw [hy47, hc47]; exact Nat.sub_le_sub_right hroom47 _) hr47); have HC225 := Aside0.mk (show y221.length ≤ c47 from by rw [hy47, hc47]; exact Nat.sub_le_sub_right hroom47 _); clear hr47 hC47 hroom47 hi047 hsz47 hc47; have KY47 := Aside0.mk hy47; have KA47 := Aside0.mk hA47; clear hy47 hA47; replace q47 := eq_true q47) | ((with_reducible refine gate_builtin (b := .append) (xs := #[.tmp 113, .tmp 116]) rfl ?_); at_builtin; refine Kd.N_append_rows (Kd.slice 3 (Kd.int .i64)) (w0 := w) w.heap.size rfl (.tmp 113) (.tmp 116) 25 36 (.slice none 0 0) 24 rfl Tryd.underlying25 info36 rfl (by decide) (by omega) v219 y218 y221 _ _ _ (fun k_ => (w.heap.size ≤ k_) ∧ some k_ ≠ (.slice (some ad192) t188.length co7 : Value).ownBlock ∧ some k_ ≠ (.slice (some ad192) t188.length co7 : Value).ownBlock) (fun k_ => ((fun k_ => (w.heap.size ≤ k_) ∧ some k_ ≠ (.slice (some ad192) t188.length co7 : Value).ownBlock ∧ some k_ ≠ (.slice (some ad192) t188.length co7 : Value).ownBlock)) k_ ∧ some k_ ≠ (v219 : Value).ownBlock) rfl rfl ?aO ?aR (fun _ hk => hk) ?aF ?aB ?aS ?aL ?_; (case aR => exact (by skip; exact Kd.V_F (Kd.V_mono (ok' := (fun k_ => ((fun k_ => (w.heap.size ≤ k_) ∧ some k_ ≠ (.slice (some ad192) t188.length co7 : Value).ownBlock ∧ some k_ ≠ (.slice (some ad192) t188.length co7 : Value).ownBlock)) k_ ∧ some k_ ≠ (v219 : Value).ownBlock)) (HO225.out) (fun k_ hk => ⟨⟨hk.1.1, ⟨hk.1.2.1, hk.1.2.2.1⟩⟩, hk.2⟩)))); (case aB => exact (by repeat (first | (with_reducible first | exact HB.out | apply below_alloc | apply pw_below_drewN | apply below_drew1) | exact HB.out))); (case aF => exact (fun k_ hk => ⟨(Nat.le_trans (below_size (by repeat (first | (with_reducible first | exact HB.out | apply below_alloc | apply pw_below_drewN | apply below_drew1) | exact HB.out))) hk), Kd.fresh' (Kd.N_lt (by (with_reducible repeat (first | apply Kd.N_alloc | apply Kd.N_drewN | apply Kd.N_drew)); exact HO_6.out)) k_ hk, Kd.fresh' (Kd.N_lt (by (with_reducible repeat (first | apply Kd.N_alloc | apply Kd.N_drewN | apply Kd.N_drew)); exact HO_27.out)) k_ hk⟩)); (case aO => exact (by (with_reducible repeat (first | apply Kd.N_alloc | apply Kd.N_drewN | apply Kd.N_drew)); exact HO220.out)); (case aS => exact (below_size (by repeat (first | (with_reducible first | exact HB.out | apply below_alloc | apply pw_below_drewN | apply below_drew1) | exact HB.out)))); (case aL => have := LMc39.out; omega); intro v227 w48 ho hb hg hat; rw [← Ny226.out] at ho; have n0_ := Aside0.mk (Kd.N_afterv (ok := (fun k_ => (w.heap.size ≤ k_) ∧ some k_ ≠ (.slice (some ad196) x8_1.length co20 : Value).ownBlock)) (by (with_reducible repeat (first | apply Kd.N_alloc | apply Kd.N_drewN | apply Kd.N_drew)); exact Kd.N_mono HO_6.out (fun _ hk => ⟨⟨hk.1.1, hk.1.2.1⟩, hk.2⟩)) hg hat); have n1_ := Aside0.mk (Kd.N_afterv (ok := (fun k_ => (w.heap.size ≤ k_) ∧ some k_ ≠ (.slice (some ad192) t188.length co7 : Value).ownBlock ∧ some k_ ≠ (.slice (some ad192) t188.length co7 : Value).ownBlock)) (by (with_reducible repeat (first | apply Kd.N_alloc | apply Kd.N_drewN | apply Kd.N_drew)); exact Kd.N_mono HO_8.out (fun _ hk => ⟨⟨hk.1.1, ⟨hk.1.2.1, hk.1.2.2.1⟩⟩, hk.2⟩)) hg hat); have n2_ := Aside0.mk (Kd.N_afterv (ok := (fun k_ => (w.heap.size ≤ k_) ∧ some k_ ≠ (.slice (some ad196) x8_1.length co20 : Value).ownBlock)) (by (with_reducible repeat (first | apply Kd.N_alloc | apply Kd.N_drewN | apply Kd.N_drew)); exact Kd.N_mono HO_27.out (fun _ hk => ⟨⟨hk.1.1, hk.1.2.1⟩, hk.2⟩)) hg hat); have n3_ := Aside0.mk (Kd.V_afterv (ok := (fun k_ => (w.heap.size ≤ k_) ∧ some k_ ≠ (.slice (some ad192) t188.length co7 : Value).ownBlock ∧ some k_ ≠ (.slice (some ad196) x8_1.length co20 : Value).ownBlock ∧ some k_ ≠ (.slice (some ad192) t188.length co7 : Value).ownBlock)) (by (with_reducible repeat (first | apply Kd.V_alloc | apply Kd.V_drewN | apply Kd.V_drew)); exact Kd.V_mono HL196_0.out (fun _ hk => ⟨⟨hk.1.1, ⟨hk.1.2.1, ⟨hk.1.2.2.1, hk.1.2.2.2.1⟩⟩⟩, hk.2⟩)) hg hat); have n4_ := Aside0.mk (Kd.V_afterv (ok := (fun k_ => (w.heap.size ≤ k_) ∧ some k_ ≠ (.slice (some ad192) t188.length co7 : Value).ownBlock ∧ some k_ ≠ (.slice (some ad196) x8_1.length co20 : Value).ownBlock ∧ some k_ ≠ (.slice (some ad192) t188.length co7 : Value).ownBlock)) (by (with_reducible repeat (first | apply Kd.V_alloc | apply Kd.V_drewN | apply Kd.V_drew)); exact Kd.V_mono HL199_0.out (fun _ hk => ⟨⟨hk.1.1, ⟨hk.1.2.1, ⟨hk.1.2.2.1, hk.1.2.2.2.1⟩⟩⟩, hk.2⟩)) hg hat); have n5_ := Aside0.mk (Kd.V_afterv (ok := (fun k_ => (w.heap.size ≤ k_) ∧ some k_ ≠ (.slice (some ad192) t188.length co7 : Value).ownBlock ∧ some k_ ≠ (.slice (some ad196) x8_1.length co20 : Value).ownBlock ∧ some k_ ≠ (.slice (some ad192) t188.length co7 : Value).ownBlock)) (by (with_reducible repeat (first | apply Kd.V_alloc | apply Kd.V_drewN | apply Kd.V_drew)); exact Kd.V_mono HL202_0.out (fun _ hk => ⟨⟨hk.1.1, ⟨hk.1.2.1, ⟨hk.1.2.2.1, hk.1.2.2.2.1⟩⟩⟩, hk.2⟩)) hg hat); have n6_ := Aside0.mk (Kd.V_afterv (ok := (fun k_ => (w.heap.size ≤ k_) ∧ some k_ ≠ (.slice (some ad192) t188.length co7 : Value).ownBlock ∧ some k_ ≠ (.slice (some ad192) t188.length co7 : Value).ownBlock)) (by (with_reducible repeat (first | apply Kd.V_alloc | apply Kd.V_drewN | apply Kd.V_drew)); exact Kd.V_mono HO211.out (fun _ hk => ⟨⟨hk.1.1, ⟨hk.1.2.1, hk.1.2.2.1⟩⟩, hk.2⟩)) hg hat); have n7_ := Aside0.mk (Kd.V_afterv (ok := (fun k_ => (w.heap.size ≤ k_) ∧ some k_ ≠ (.slice (some ad192) t188.length co7 : Value).ownBlock ∧ some k_ ≠ (.slice (some ad192) t188.length co7 : Value).ownBlock)) (by (with_reducible repeat (first | apply Kd.V_alloc | apply Kd.V_drewN | apply Kd.V_drew)); exact Kd.V_mono HO225.out (fun _ hk => ⟨⟨hk.1.1, ⟨hk.1.2.1, hk.1.2.2.1⟩⟩, hk.2⟩)) hg hat); have n8_ := Aside0.mk (hb); have n9_ := Aside0.mk (ho); clear HO_6; clear HO_8; clear HO_27; clear HL196_0; clear HL199_0; clear HL202_0; clear HO211; clear HO225; clear HB; clear HO220; have HO_6 := n0_; have HO_8 := n1_; have HO_27 := n2_; have HL196_0 := n3_; have HL199_0 := n4_; have HL202_0 := n5_; have HO211 := n6_; have HO225 := n7_; have HB := n8_; have HO228 := n9_; clear n0_ n1_ n2_ n3_ n4_ n5_ n6_ n7_ n8_ n9_; clear ho hb hg hat))
                                                            go_roundg k4
                                                            case measure => have := HK1.out; have := HK2.out; have := HJ16.out; have := HK4.out; omega
                                                            case rel => exact ⟨(y226), (wrap64 (x29_1 + 1)), (by first | rfl | (simp; done) | (simp [*]; done)), H', ⟨by have := HK1.out; have := HK2.out; have := HJ16.out; have := HK4.out; omega⟩, ⟨by (with_reducible repeat (first | apply Kd.N_alloc | apply Kd.N_drewN | apply Kd.N_drew)); exact Kd.N_mono HO_6.out (fun _ hk => ⟨hk.1.1, hk.2⟩)⟩, ⟨by (with_reducible repeat (first | apply Kd.N_alloc | apply Kd.N_drewN | apply Kd.N_drew)); exact HO228.out⟩, ⟨by (with_reducible repeat (first | apply Kd.N_alloc | apply Kd.N_drewN | apply Kd.N_drew)); exact Kd.N_mono HO_27.out (fun _ hk => ⟨hk.1.1, hk.2⟩)⟩, ⟨by repeat (first | (with_reducible first | exact HB.out | apply below_alloc | apply pw_below_drewN | apply below_drew1) | exact HB.out)⟩⟩
                                                          · rw [if_neg c39] at H
                                                            exact absurd H (by simp)
                                                        · rw [if_neg c36] at H
                                                          exact absurd H (by simp)
                                                      · rw [if_neg c34] at H
                                                        exact absurd H (by simp)
                                                    · rw [if_neg c33] at H
                                                      exact absurd H (by simp)
                                                  · rw [if_neg c32] at H
                                                    exact absurd H (by simp)
                                              · rw [if_neg c30] at H
                                                exact absurd H (by simp)
                                            · rw [if_neg c29] at H
                                              exact absurd H (by simp)
                                          · rw [if_neg c28] at H
                                            have c28b0 : ((rd (rd_L4 t188 x29_1) 0) == (rd (rd_L4 x8_1 (ji23)) 0)) = false := beq_eq_false_iff_ne.mpr c28
                                            have c28b1 : ((rd (rd_L4 t188 x29_1) 0) != (rd (rd_L4 x8_1 (ji23)) 0)) = true := bne_iff_ne.mpr c28
                                            obtain ⟨y229, hy229⟩ : ∃ y_ : List (List Int), y_ = (([] : List (List Int))) := ⟨_, rfl⟩
                                            replace H : (if 0 ≤ x15_4 then (if x15_4 ≤ (x8_1.length : Int) then ((some (x8_1.take (x15_4 : Int).toNat : List (List Int))).bind fun y232 => (if y229.length + y232.length < 5864062014805 then ((some (y229 ++ y232 : List (List Int))).bind fun y237 => ((spec_l1Own.f (rd_L4 t188 x29_1)).bind fun t240 => (if y237.length < 5864062014805 then ((some (y237 ++ [t240] : List (List Int))).bind fun y243 => ((some (x8_1.drop (x15_4 : Int).toNat : List (List Int))).bind fun y246 => (if y243.length + y246.length < 5864062014805 then (spec_CrossedPoints.l0 k4 t188 (y243 ++ y246) t188 (t188.length : Int) (wrap64 (x29_1 + 1))) else (none)))) else (none)))) else (none))) else (none)) else (none)) = some (r1, r2) := by first | (rw [hy229]; with_reducible exact H) | (have H2_ := (Option.bind_some _ _).symm.trans H; rw [hy229]; with_reducible exact H2_) | (have H2_ := (Option.bind_some _ _).symm.trans H; with_reducible exact H2_) | with_reducible exact H | (rw [hy229]; exact H) | exact H
                                            have Ny229 := Aside0.mk hy229
                                            clear hy229
                                            by_cases c49 : 0 ≤ x15_4
                                            · rw [if_pos c49] at H
                                              have c49b0 := eq_true c49
                                              have c49b1 : decide (0 ≤ x15_4) = true := decide_eq_true c49
                                              clear c49
                                              by_cases c50 : x15_4 ≤ (x8_1.length : Int)
                                              · rw [if_pos c50] at H
                                                have c50b0 := eq_true c50
                                                have c50b1 : decide (x15_4 ≤ (x8_1.length : Int)) = true := decide_eq_true c50
                                                clear c50
                                                obtain ⟨y232, hy232⟩ : ∃ y_ : List (List Int), y_ = (x8_1.take (x15_4 : Int).toNat) := ⟨_, rfl⟩
                                                replace H : (if y229.length + y232.length < 5864062014805 then ((some (y229 ++ y232 : List (List Int))).bind fun y237 => ((spec_l1Own.f (rd_L4 t188 x29_1)).bind fun t240 => (if y237.length < 5864062014805 then ((some (y237 ++ [t240] : List (List Int))).bind fun y243 => ((some (x8_1.drop (x15_4 : Int).toNat : List (List Int))).bind fun y246 => (if y243.length + y246.length < 5864062014805 then (spec_CrossedPoints.l0 k4 t188 (y243 ++ y246) t188 (t188.length : Int) (wrap64 (x29_1 + 1))) else (none)))) else (none)))) else (none)) = some (r1, r2) := by first | (rw [hy232]; with_reducible exact H) | (have H2_ := (Option.bind_some _ _).symm.trans H; rw [hy232]; with_reducible exact H2_) | (have H2_ := (Option.bind_some _ _).symm.trans H; with_reducible exact H2_) | with_reducible exact H | (rw [hy232]; exact H) | exact H
                                                have Ny232 := Aside0.mk hy232
                                                clear hy232
                                                by_cases c51 : y229.length + y232.length < 5864062014805
                                                · rw [if_pos c51] at H
                                                  have LMc51 := Aside0.mk c51
                                                  clear c51
                                                  obtain ⟨y237, hy237⟩ : ∃ y_ : List (List Int), y_ = (y229 ++ y232) := ⟨_, rfl⟩
                                                  replace H : ((spec_l1Own.f (rd_L4 t188 x29_1)).bind fun t240 => (if y237.length < 5864062014805 then ((some (y237 ++ [t240] : List (List Int))).bind fun y243 => ((some (x8_1.drop (x15_4 : Int).toNat : List (List Int))).bind fun y246 => (if y243.length + y246.length < 5864062014805 then (spec_CrossedPoints.l0 k4 t188 (y243 ++ y246) t188 (t188.length : Int) (wrap64 (x29_1 + 1))) else (none)))) else (none))) = some (r1, r2) := by first | (rw [hy237]; with_reducible exact H) | (have H2_ := (Option.bind_some _ _).symm.trans H; rw [hy237]; with_reducible exact H2_) | (have H2_ := (Option.bind_some _ _).symm.trans H; with_reducible exact H2_) | with_reducible exact H | (rw [hy237]; exact H) | exact H
                                                  have Ny237 := Aside0.mk hy237
                                                  clear hy237
                                                  replace H := Option.bind_eq_some_iff.mp H
                                                  obtain ⟨t240, A520, H⟩ := H
                                                  replace H : (if y237.length < 5864062014805 then ((some (y237 ++ [t240] : List (List Int))).bind fun y243 => ((some (x8_1.drop (x15_4 : Int).toNat : List (List Int))).bind fun y246 => (if y243.length + y246.length < 5864062014805 then (spec_CrossedPoints.l0 k4 t188 (y243 ++ y246) t188 (t188.length : Int) (wrap64 (x29_1 + 1))) else (none)))) else (none)) = some (r1, r2) := H
                                                  have A52 := Aside0.mk A520
                                                  clear A520
                                                  by_cases c53 : y237.length < 5864062014805
                                                  · rw [if_pos c53] at H
                                                    have LMc53 := Aside0.mk c53
                                                    clear c53
                                                    obtain ⟨y243, hy243⟩ : ∃ y_ : List (List Int), y_ = (y237 ++ [t240]) := ⟨_, rfl⟩
                                                    replace H : ((some (x8_1.drop (x15_4 : Int).toNat : List (List Int))).bind fun y246 => (if y243.length + y246.length < 5864062014805 then (spec_CrossedPoints.l0 k4 t188 (y243 ++ y246) t188 (t188.length : Int) (wrap64 (x29_1 + 1))) else (none))) = some (r1, r2) := by first | (rw [hy243]; with_reducible exact H) | (have H2_ := (Option.bind_some _ _).symm.trans H; rw [hy243]; with_reducible exact H2_) | (have H2_ := (Option.bind_some _ _).symm.trans H; with_reducible exact H2_) | with_reducible exact H | (rw [hy243]; exact H) | exact H
                                                    have Ny243 := Aside0.mk hy243
                                                    clear hy243
                                                    have c54b0 := eq_true (of_decide_eq_true (by first | (with_reducible assumption) | assumption) : 0 ≤ x15_4)
                                                    have c55b0 := eq_true (of_decide_eq_true (by first | (with_reducible assumption) | assumption) : x15_4 ≤ (x8_1.length : Int))
                                                    obtain ⟨y246, hy246⟩ : ∃ y_ : List (List Int), y_ = (x8_1.drop (x15_4 : Int).toNat) := ⟨_, rfl⟩
                                                    replace H : (if y243.length + y246.length < 5864062014805 then (spec_CrossedPoints.l0 k4 t188 (y243 ++ y246) t188 (t188.length : Int) (wrap64 (x29_1 + 1))) else (none)) = some (r1, r2) := by first | (rw [hy246]; with_reducible exact H) | (have H2_ := (Option.bind_some _ _).symm.trans H; rw [hy246]; with_reducible exact H2_) | (have H2_ := (Option.bind_some _ _).symm.trans H; with_reducible exact H2_) | with_reducible exact H | (rw [hy246]; exact H) | exact H
                                                    have Ny246 := Aside0.mk hy246
                                                    clear hy246
                                                    by_cases c56 : y243.length + y246.length < 5864062014805
                                                    · rw [if_pos c56] at H
                                                      have LMc56 := Aside0.mk c56
                                                      clear c56
                                                      obtain ⟨y251, hy251⟩ : ∃ y_ : List (List Int), y_ = (y243 ++ y246) := ⟨_, rfl⟩
                                                      replace H : (spec_CrossedPoints.l0 k4 t188 y251 t188 (t188.length : Int) (wrap64 (x29_1 + 1))) = some (r1, r2) := by first | (rw [hy251]; with_reducible exact H) | (have H2_ := (Option.bind_some _ _).symm.trans H; rw [hy251]; with_reducible exact H2_) | (have H2_ := (Option.bind_some _ _).symm.trans H; with_reducible exact H2_) | with_reducible exact H | (rw [hy251]; exact H) | exact H
                                                      have Ny251 := Aside0.mk hy251
                                                      clear hy251
                                                      have H' := Aside0.mk H
                                                      clear H
                                                      have p195 : 0 ≤ (0 : Int) := (by omega)
                                                      have q195 : 0 < ((rd_L4 t188 x29_1).length : Int) := of_decide_eq_true (by first | (with_reducible assumption) | assumption)
                                                      obtain ⟨ad195, e195, hx195_0⟩ := Kd.at_int HR192_0.out 0 p195 q195
                                                      cases e195
                                                      have qi195 : (0 < (rd_L4 t188 x29_1).length) = True := eq_true (by omega)
                                                      (try rw [show ((0 : Int)).toNat = 0 from rfl] at hx195_0)
                                                      (try rw [Addr.add_zero'] at hx195_0)
                                                      first | replace hx195_0 := (HB.out.cell (World.block_lt_of_cell? w _ hx195_0)).trans hx195_0 | skip
                                                      replace p195 := eq_true p195
                                                      replace q195 := eq_true q195
                                                      have p196 : 0 ≤ ((ji23) : Int) := of_decide_eq_true (by first | (with_reducible assumption) | assumption)
                                                      have q196 : (ji23) < (x8_1.length : Int) := of_decide_eq_true (by first | (with_reducible assumption) | assumption)
                                                      obtain ⟨ad196, A196_0, c196_0, e196, hx196_0, hl196_0, hi196_0⟩ := at_L4 (Kd.N_reads' HO_8.out).2.2 (ji23) p196 q196
                                                      cases e196
                                                      obtain ⟨ce196, hce196, hMe196, hcc196⟩ := Kd.N_get HO_8.out [] (ji23) p196 (by first | exact q196 | exact of_decide_eq_true (by first | (with_reducible assumption) | assumption) | (have e_ := (Kd.N_reads' HO_8.out).1; omega))
                                                      obtain ⟨ua196_0, uc196_0, rfl, ul196_0, ge196_0⟩ := Kd.FK_slice_open hMe196
                                                      have hv196_0 := hcc196 0 _ rfl
                                                      rw [Nat.add_zero, show ((Kd.slice 3 (Kd.int .i64))).sz = 1 from rfl, Nat.mul_one] at hv196_0
                                                      replace hv196_0 := Option.some.inj (hv196_0.symm.trans hx196_0)
                                                      injection hv196_0 with hva_ hvn_ hvc_
                                                      rw [hva_] at ge196_0
                                                      rw [hvc_] at ul196_0
                                                      have HL196_0 := Aside0.mk (show Kd.V (Kd.int .i64) 3 _ w.heap.size _ _ (rd_L4 x8_1 (ji23)) from Kd.V_mk ul196_0 ge196_0)
                                                      clear hva_ hvn_ hvc_ ge196_0 ul196_0
                                                      clear hcc196 hce196
                                                      have HR196_0 := Aside0.mk hi196_0
                                                      have HC196_0 := Aside0.mk hl196_0
                                                      clear hi196_0 hl196_0
                                                      replace p196 := eq_true p196
                                                      replace q196 := eq_true q196
                                                      have p197 : 0 ≤ (0 : Int) := (by omega)
                                                      have q197 : 0 < ((rd_L4 x8_1 (ji23)).length : Int) := of_decide_eq_true (by first | (with_reducible assumption) | assumption)
                                                      obtain ⟨ad197, e197, hx197_0⟩ := Kd.at_int (by repeat (first | (with_reducible exact HR196_0.out) | (with_reducible refine Kd.C_alloc ?_ _) | (with_reducible refine Kd.C_drewN ?_ _) | (with_reducible refine Kd.C_drew ?_) | exact HR196_0.out)) 0 p197 q197
                                                      cases e197
                                                      have qi197 : (0 < (rd_L4 x8_1 (ji23)).length) = True := eq_true (by omega)
                                                      (try rw [show ((0 : Int)).toNat = 0 from rfl] at hx197_0)
                                                      (try rw [Addr.add_zero'] at hx197_0)
                                                      replace p197 := eq_true p197
                                                      replace q197 := eq_true q197
                                                      have p198 : 0 ≤ (0 : Int) := (by omega)
                                                      have q198 : 0 < ((rd_L4 t188 x29_1).length : Int) := of_decide_eq_true (by first | (with_reducible assumption) | assumption)
                                                      obtain ⟨ad198, e198, hx198_0⟩ := Kd.at_int HR192_0.out 0 p198 q198
                                                      obtain rfl : ad195 = ad198 := (by injection e198)
                                                      have qi198 : (0 < (rd_L4 t188 x29_1).length) = True := eq_true (by omega)
                                                      (try rw [show ((0 : Int)).toNat = 0 from rfl] at hx198_0)
                                                      (try rw [Addr.add_zero'] at hx198_0)
                                                      first | replace hx198_0 := (HB.out.cell (World.block_lt_of_cell? w _ hx198_0)).trans hx198_0 | skip
                                                      replace p198 := eq_true p198
                                                      replace q198 := eq_true q198
                                                      have p199 : 0 ≤ ((ji23) : Int) := of_decide_eq_true (by first | (with_reducible assumption) | assumption)
                                                      have q199 : (ji23) < (x8_1.length : Int) := of_decide_eq_true (by first | (with_reducible assumption) | assumption)
                                                      obtain ⟨ad199, A199_0, c199_0, e199, hx199_0, hl199_0, hi199_0⟩ := at_L4 (Kd.N_reads' HO_8.out).2.2 (ji23) p199 q199
                                                      obtain rfl : ad196 = ad199 := (by injection e199)
                                                      obtain ⟨ce199, hce199, hMe199, hcc199⟩ := Kd.N_get HO_8.out [] (ji23) p199 (by first | exact q199 | exact of_decide_eq_true (by first | (with_reducible assumption) | assumption) | (have e_ := (Kd.N_reads' HO_8.out).1; omega))
                                                      obtain ⟨ua199_0, uc199_0, rfl, ul199_0, ge199_0⟩ := Kd.FK_slice_open hMe199
                                                      have hv199_0 := hcc199 0 _ rfl
                                                      rw [Nat.add_zero, show ((Kd.slice 3 (Kd.int .i64))).sz = 1 from rfl, Nat.mul_one] at hv199_0
                                                      replace hv199_0 := Option.some.inj (hv199_0.symm.trans hx199_0)
                                                      injection hv199_0 with hva_ hvn_ hvc_
                                                      rw [hva_] at ge199_0
                                                      rw [hvc_] at ul199_0
                                                      have HL199_0 := Aside0.mk (show Kd.V (Kd.int .i64) 3 _ w.heap.size _ _ (rd_L4 x8_1 (ji23)) from Kd.V_mk ul199_0 ge199_0)
                                                      clear hva_ hvn_ hvc_ ge199_0 ul199_0
                                                      clear hcc199 hce199
                                                      have HR199_0 := Aside0.mk hi199_0
                                                      have HC199_0 := Aside0.mk hl199_0
                                                      clear hi199_0 hl199_0
                                                      replace p199 := eq_true p199
                                                      replace q199 := eq_true q199
                                                      have ea_ := Option.some.inj (hx196_0.symm.trans hx199_0)
                                                      injection ea_ with ea_ en_ ec_
                                                      subst ea_
                                                      subst ec_
                                                      clear en_
                                                      have p200 : 0 ≤ (0 : Int) := (by omega)
                                                      have q200 : 0 < ((rd_L4 x8_1 (ji23)).length : Int) := of_decide_eq_true (by first | (with_reducible assumption) | assumption)
                                                      obtain ⟨ad200, e200, hx200_0⟩ := Kd.at_int (by repeat (first | (with_reducible exact HR199_0.out) | (with_reducible refine Kd.C_alloc ?_ _) | (with_reducible refine Kd.C_drewN ?_ _) | (with_reducible refine Kd.C_drew ?_) | exact HR199_0.out)) 0 p200 q200
                                                      cases e200
                                                      have qi200 : (0 < (rd_L4 x8_1 (ji23)).length) = True := eq_true (by omega)
                                                      (try rw [show ((0 : Int)).toNat = 0 from rfl] at hx200_0)
                                                      (try rw [Addr.add_zero'] at hx200_0)
                                                      replace p200 := eq_true p200
                                                      replace q200 := eq_true q200
                                                      go_wp2_with (fail)
                                                      go_quiet (fail)
                                                      go_wp2_with (first | ((with_reducible refine gate_dst (N := 104) rfl ?_); refine Kd.N_lit (Kd.slice 3 (Kd.int .i64)) _ 36 ?hg (N' := 104) ?hd (xs := ([] : List (List Int))) (inner := []) (ok := (fun k_ => (w.heap.size ≤ k_) ∧ some k_ ≠ (.slice (some ad192) t188.length co7 : Value).ownBlock ∧ some k_ ≠ (.slice (some ad196) x8_1.length co20 : Value).ownBlock ∧ some k_ ≠ (.slice (some ad192) t188.length co7 : Value).ownBlock)) (okp := (fun k_ => (w.heap.size ≤ k_) ∧ some k_ ≠ (.slice (some ad192) t188.length co7 : Value).ownBlock ∧ some k_ ≠ (.slice (some ad196) x8_1.length co20 : Value).ownBlock ∧ some k_ ≠ (.slice (some ad192) t188.length co7 : Value).ownBlock)) ?hr ?hp (fun _ hk => hk) ((show ∀ k_, wr.heap.size ≤ k_ → (fun k_ => (w.heap.size ≤ k_) ∧ some k_ ≠ (.slice (some ad192) t188.length co7 : Value).ownBlock ∧ some k_ ≠ (.slice (some ad196) x8_1.length co20 : Value).ownBlock ∧ some k_ ≠ (.slice (some ad192) t188.length co7 : Value).ownBlock) k_ from fun k_ hk => ⟨(Nat.le_trans (below_size (by repeat (first | (with_reducible first | exact HB.out | apply below_alloc | apply pw_below_drewN | apply below_drew1) | exact HB.out))) hk), Kd.fresh' (Kd.N_lt (by (with_reducible repeat (first | apply Kd.N_alloc | apply Kd.N_drewN | apply Kd.N_drew)); exact HO_6.out)) k_ hk, Kd.fresh' (Kd.N_lt (by (with_reducible repeat (first | apply Kd.N_alloc | apply Kd.N_drewN | apply Kd.N_drew)); exact HO_8.out)) k_ hk, Kd.fresh' (Kd.N_lt (by (with_reducible repeat (first | apply Kd.N_alloc | apply Kd.N_drewN | apply Kd.N_drew)); exact HO_27.out)) k_ hk⟩) _ (Nat.le_refl _)) (Below.refl _ _) (Nat.le_refl _) (by simp) ?_; (case hd => rfl); (case hg => rfl); (case hr => first | (go_simp; done) | (go_simp; rfl)); (case hp => exact (Reps.none _ _)); intro v230 w57 ho58 hb hg_ hnew_; have HRX0_ := Kd.C_drewN HR192_0.out nq; have HRX1_ := C_hold HRX0_ hb hnew_; have HRX_ := Aside0.mk HRX1_; clear HRX0_ HRX1_; clear hg_ hnew_; (first | rw [← Ny229.out] at ho58 | (simp only [Int.reduceToNat] at ho58; rw [← Ny229.out] at ho58)); have n0_ := Aside0.mk (Kd.N_elder' (by (with_reducible repeat (first | apply Kd.N_alloc | apply Kd.N_drewN | apply Kd.N_drew)); exact HO_6.out) (Kd.N_base ho58) hb); have n1_ := Aside0.mk (Kd.N_elder' (by (with_reducible repeat (first | apply Kd.N_alloc | apply Kd.N_drewN | apply Kd.N_drew)); exact HO_8.out) (Kd.N_base ho58) hb); have n2_ := Aside0.mk (Kd.N_elder' (by (with_reducible repeat (first | apply Kd.N_alloc | apply Kd.N_drewN | apply Kd.N_drew)); exact HO_27.out) (Kd.N_base ho58) hb); have n3_ := Aside0.mk (Kd.V_elder' (by (with_reducible repeat (first | apply Kd.V_alloc | apply Kd.V_drewN | apply Kd.V_drew)); exact HL196_0.out) (Kd.N_base ho58) hb); have n4_ := Aside0.mk (Kd.V_elder' (by (with_reducible repeat (first | apply Kd.V_alloc | apply Kd.V_drewN | apply Kd.V_drew)); exact HL199_0.out) (Kd.N_base ho58) hb); have n5_ := Aside0.mk (Kd.N_lower ho58 (below_size (by repeat (first | (with_reducible first | exact HB.out | apply below_alloc | apply pw_below_drewN | apply below_drew1) | exact HB.out)))); have n6_ := Aside0.mk (Kd.C_below (by first | (with_reducible exact Kd.C_drewN HR192_0.out _) | repeat (first | (with_reducible exact HR192_0.out) | (with_reducible refine Kd.C_alloc ?_ _) | (with_reducible refine Kd.C_drewN ?_ _) | (with_reducible refine Kd.C_drew ?_) | exact HR192_0.out)) hb); have n7_ := Aside0.mk (Kd.C_below (by first | (with_reducible exact Kd.C_drewN HR196_0.out _) | repeat (first | (with_reducible exact HR196_0.out) | (with_reducible refine Kd.C_alloc ?_ _) | (with_reducible refine Kd.C_drewN ?_ _) | (with_reducible refine Kd.C_drew ?_) | exact HR196_0.out)) hb); have n8_ := Aside0.mk (Kd.C_below (by first | (with_reducible exact Kd.C_drewN HR199_0.out _) | repeat (first | (with_reducible exact HR199_0.out) | (with_reducible refine Kd.C_alloc ?_ _) | (with_reducible refine Kd.C_drewN ?_ _) | (with_reducible refine Kd.C_drew ?_) | exact HR199_0.out)) hb); have n9_ := Aside0.mk (below_step (by repeat (first | (with_reducible first | exact HB.out | apply below_alloc | apply pw_below_drewN | apply below_drew1) | exact HB.out)) hb); clear HO_6; clear HO_8; clear HO_27; clear HL196_0; clear HL199_0; clear HR192_0; clear HR196_0; clear HR199_0; clear HB; have HO_6 := n0_; have HO_8 := n1_; have HO_27 := n2_; have HL196_0 := n3_; have HL199_0 := n4_; have HO231 := n5_; have HR192_0 := n6_; have HR196_0 := n7_; have HR199_0 := n8_; have HB := n9_; clear n0_ n1_ n2_ n3_ n4_ n5_ n6_ n7_ n8_ n9_; clear hb ho58; have q59 : (x15_4 : Int) ≤ ((x8_1.length : Int) : Int) := of_decide_eq_true (by first | (with_reducible assumption) | assumption); obtain ⟨i059, hi059, _, hsz59, _⟩ := info_parts info36; have hroom59 : x8_1.length ≤ co20 := (Kd.N_reads' HO_8.out).2.1; have hC59 : Kd.F (Kd.slice 3 (Kd.int .i64)) _ _ (some ad196) x8_1.length x8_1 := (Kd.V_at (base := w.heap.size) (Kd.N_V HO_8.out)).2.2; have hcut59 := cut_to (P := Tryd.prog) 25 36 .i64 Tryd.underlying25 hi059 (some ad196) x8_1.length co20 x15_4 (of_decide_eq_true (by first | (with_reducible assumption) | assumption)) q59 hroom59; have hr59 := Kd.F_take (m := (x15_4 : Int).toNat) hC59 (by omega); have hy59 : y232.length = (x15_4 : Int).toNat := (by rw [Ny232.out, List.length_take]; omega); rw [← Ny232.out] at hr59; rw [← hy59] at hcut59; have HO236 := Aside0.mk (show Kd.V (Kd.slice 3 (Kd.int .i64)) 36 _ w.heap.size _ (.slice (some ad196) y232.length co20) y232 from Kd.V_mk (by omega) hr59); have HC236 := Aside0.mk (show y232.length ≤ co20 from by omega); clear hr59 hC59 hroom59 hi059 hsz59; have KY59 := Aside0.mk hy59; clear hy59; replace q59 := eq_true q59) | ((with_reducible refine gate_builtin (b := .append) (xs := #[.tmp 104, .tmp 107]) rfl ?_); at_builtin; refine Kd.N_append_rows (Kd.slice 3 (Kd.int .i64)) (w0 := w) w.heap.size rfl (.tmp 104) (.tmp 107) 25 36 (.slice none 0 0) 24 rfl Tryd.underlying25 info36 rfl (by decide) (by omega) v230 y229 y232 _ _ _ (fun k_ => (w.heap.size ≤ k_) ∧ some k_ ≠ (.slice (some ad192) t188.length co7 : Value).ownBlock ∧ some k_ ≠ (.slice (some ad192) t188.length co7 : Value).ownBlock) (fun k_ => ((fun k_ => (w.heap.size ≤ k_) ∧ some k_ ≠ (.slice (some ad192) t188.length co7 : Value).ownBlock ∧ some k_ ≠ (.slice (some ad192) t188.length co7 : Value).ownBlock)) k_ ∧ some k_ ≠ (v230 : Value).ownBlock) rfl rfl ?aO ?aR (fun _ hk => hk) ?aF ?aB ?aS ?aL ?_; (case aR => exact (by skip; exact Kd.V_F (Kd.V_mono (ok' := (fun k_ => ((fun k_ => (w.heap.size ≤ k_) ∧ some k_ ≠ (.slice (some ad192) t188.length co7 : Value).ownBlock ∧ some k_ ≠ (.slice (some ad192) t188.length co7 : Value).ownBlock)) k_ ∧ some k_ ≠ (v230 : Value).ownBlock)) (HO236.out) (fun k_ hk => ⟨⟨hk.1.1, ⟨hk.1.2.1, hk.1.2.2⟩⟩, hk.2⟩)))); (case aB => exact (by repeat (first | (with_reducible first | exact HB.out | apply below_alloc | apply pw_below_drewN | apply below_drew1) | exact HB.out))); (case aF => exact (fun k_ hk => ⟨(Nat.le_trans (below_size (by repeat (first | (with_reducible first | exact HB.out | apply below_alloc | apply pw_below_drewN | apply below_drew1) | exact HB.out))) hk), Kd.fresh' (Kd.N_lt (by (with_reducible repeat (first | apply Kd.N_alloc | apply Kd.N_drewN | apply Kd.N_drew)); exact HO_6.out)) k_ hk, Kd.fresh' (Kd.N_lt (by (with_reducible repeat (first | apply Kd.N_alloc | apply Kd.N_drewN | apply Kd.N_drew)); exact HO_27.out)) k_ hk⟩)); (case aO => exact (by (with_reducible repeat (first | apply Kd.N_alloc | apply Kd.N_drewN | apply Kd.N_drew)); exact Kd.N_mono HO231.out (fun _ hk => ⟨hk.1, ⟨hk.2.1, hk.2.2.2⟩⟩))); (case aS => exact (below_size (by repeat (first | (with_reducible first | exact HB.out | apply below_alloc | apply pw_below_drewN | apply below_drew1) | exact HB.out)))); (case aL => have := LMc51.out; omega); intro v238 w60 ho hb hg hat; have nX_ := Aside0.mk (HRX_.out _ hg); clear HR192_0; have HR192_0 := nX_; clear nX_; rw [← Ny237.out] at ho; have n0_ := Aside0.mk (Kd.N_afterv (ok := (fun k_ => (w.heap.size ≤ k_) ∧ some k_ ≠ (.slice (some ad196) x8_1.length co20 : Value).ownBlock)) (by (with_reducible repeat (first | apply Kd.N_alloc | apply Kd.N_drewN | apply Kd.N_drew)); exact HO_6.out) hg hat); have n1_ := Aside0.mk (Kd.N_afterv (ok := (fun k_ => (w.heap.size ≤ k_) ∧ some k_ ≠ (.slice (some ad192) t188.length co7 : Value).ownBlock ∧ some k_ ≠ (.slice (some ad192) t188.length co7 : Value).ownBlock)) (by (with_reducible repeat (first | apply Kd.N_alloc | apply Kd.N_drewN | apply Kd.N_drew)); exact HO_8.out) hg hat); have n2_ := Aside0.mk (Kd.N_afterv (ok := (fun k_ => (w.heap.size ≤ k_) ∧ some k_ ≠ (.slice (some ad196) x8_1.length co20 : Value).ownBlock)) (by (with_reducible repeat (first | apply Kd.N_alloc | apply Kd.N_drewN | apply Kd.N_drew)); exact HO_27.out) hg hat); have n3_ := Aside0.mk (Kd.V_afterv (ok := (fun k_ => (w.heap.size ≤ k_) ∧ some k_ ≠ (.slice (some ad192) t188.length co7 : Value).ownBlock ∧ some k_ ≠ (.slice (some ad196) x8_1.length co20 : Value).ownBlock ∧ some k_ ≠ (.slice (some ad192) t188.length co7 : Value).ownBlock)) (by (with_reducible repeat (first | apply Kd.V_alloc | apply Kd.V_drewN | apply Kd.V_drew)); exact Kd.V_mono HL196_0.out (fun _ hk => ⟨⟨hk.1.1.1, ⟨hk.1.1.2.1, ⟨hk.1.2, hk.1.1.2.2⟩⟩⟩, hk.2⟩)) hg hat); have n4_ := Aside0.mk (Kd.V_afterv (ok := (fun k_ => (w.heap.size ≤ k_) ∧ some k_ ≠ (.slice (some ad192) t188.length co7 : Value).ownBlock ∧ some k_ ≠ (.slice (some ad196) x8_1.length co20 : Value).ownBlock ∧ some k_ ≠ (.slice (some ad192) t188.length co7 : Value).ownBlock)) (by (with_reducible repeat (first | apply Kd.V_alloc | apply Kd.V_drewN | apply Kd.V_drew)); exact Kd.V_mono HL199_0.out (fun _ hk => ⟨⟨hk.1.1.1, ⟨hk.1.1.2.1, ⟨hk.1.2, hk.1.1.2.2⟩⟩⟩, hk.2⟩)) hg hat); have n5_ := Aside0.mk (Kd.V_afterv (ok := (fun k_ => (w.heap.size ≤ k_) ∧ some k_ ≠ (.slice (some ad192) t188.length co7 : Value).ownBlock ∧ some k_ ≠ (.slice (some ad192) t188.length co7 : Value).ownBlock)) (by (with_reducible repeat (first | apply Kd.V_alloc | apply Kd.V_drewN | apply Kd.V_drew)); exact HO236.out) hg hat); have n6_ := Aside0.mk (hb); have n7_ := Aside0.mk (ho); clear HO_6; clear HO_8; clear HO_27; clear HL196_0; clear HL199_0; clear HO236; clear HB; clear HO231; have HO_6 := n0_; have HO_8 := n1_; have HO_27 := n2_; have HL196_0 := n3_; have HL199_0 := n4_; have HO236 := n5_; have HB := n6_; have HO239 := n7_; clear n0_ n1_ n2_ n3_ n4_ n5_ n6_ n7_; clear ho hb hg hat) | (go_at_call 22; (with_reducible refine (spec_l1Own.calls _ _ (rd_L4 t188 x29_1) t240 _ ?side1 ?side2 A52.out).mono ?_); (case side1 => repeat (first | exact HR192_0.out | (with_reducible refine Kd.C_alloc ?_ _) | (with_reducible refine Kd.C_drewN ?_ _) | (with_reducible refine Kd.C_drew ?_))); (case side2 => exact HC192_0.out); rintro e w61 ⟨v241, rfl, ho0, hb⟩; have n0_ := Aside0.mk (Kd.N_elder' (by (with_reducible repeat (first | apply Kd.N_alloc | apply Kd.N_drewN | apply Kd.N_drew)); exact HO_6.out) (Kd.R_base ho0) hb); have n1_ := Aside0.mk (Kd.N_elder' (by (with_reducible repeat (first | apply Kd.N_alloc | apply Kd.N_drewN | apply Kd.N_drew)); exact HO_8.out) (Kd.R_base ho0) hb); have n2_ := Aside0.mk (Kd.N_elder' (by (with_reducible repeat (first | apply Kd.N_alloc | apply Kd.N_drewN | apply Kd.N_drew)); exact HO_27.out) (Kd.R_base ho0) hb); have n3_ := Aside0.mk (Kd.V_elder' (by (with_reducible repeat (first | apply Kd.V_alloc | apply Kd.V_drewN | apply Kd.V_drew)); exact HL196_0.out) (Kd.R_base ho0) hb); have n4_ := Aside0.mk (Kd.V_elder' (by (with_reducible repeat (first | apply Kd.V_alloc | apply Kd.V_drewN | apply Kd.V_drew)); exact HL199_0.out) (Kd.R_base ho0) hb); have n5_ := Aside0.mk (Kd.V_elder' (by (with_reducible repeat (first | apply Kd.V_alloc | apply Kd.V_drewN | apply Kd.V_drew)); exact HO236.out) (Kd.R_base ho0) hb); have n6_ := Aside0.mk (Kd.N_elder' (by (with_reducible repeat (first | apply Kd.N_alloc | apply Kd.N_drewN | apply Kd.N_drew)); exact HO239.out) (Kd.R_base ho0) hb); have n7_ := Aside0.mk (Kd.R_lower (Kd.R_newM (M := fun k_ => (w.heap.size ≤ k_)) ho0 (below_size (by repeat (first | (with_reducible first | exact HB.out | apply below_alloc | apply pw_below_drewN | apply below_drew1) | exact HB.out))) (fun k_ h_ => h_)) (below_size (by repeat (first | (with_reducible first | exact HB.out | apply below_alloc | apply pw_below_drewN | apply below_drew1) | exact HB.out)))); have n8_ := Aside0.mk (below_step (by repeat (first | (with_reducible first | exact HB.out | apply below_alloc | apply pw_below_drewN | apply below_drew1) | exact HB.out)) hb); clear HO_6; clear HO_8; clear HO_27; clear HL196_0; clear HL199_0; clear HO236; clear HO239; clear HB; have HO_6 := n0_; have HO_8 := n1_; have HO_27 := n2_; have HL196_0 := n3_; have HL199_0 := n4_; have HO236 := n5_; have HO239 := n6_; have HO242 := n7_; have HB := n8_; clear n0_ n1_ n2_ n3_ n4_ n5_ n6_ n7_ n8_; (try clear hb); (try clear hb2); (try clear hk); (try clear hi); (try clear ho0); obtain ⟨Ao63, co63, eo63⟩ := Kd.R_slice HO242.out; subst eo63) | ((with_reducible refine gate_builtin (b := .append) (xs := #[.tmp 108, .tmp 111]) rfl ?_); at_builtin; refine Kd.N_append (Kd.slice 3 (Kd.int .i64)) (w0 := w) w.heap.size rfl (.tmp 108) (.tmp 111) 25 36 (.slice none 0 0) 24 rfl Tryd.underlying25 info36 rfl (by decide) (by omega) v238 y237 t240 [.slice Ao63 t240.length co63] (fun k_ => (w.heap.size ≤ k_) ∧ some k_ ≠ (.slice (some ad192) t188.length co7 : Value).ownBlock ∧ some k_ ≠ (.slice (some ad192) t188.length co7 : Value).ownBlock) (fun k_ => ((fun k_ => (w.heap.size ≤ k_) ∧ some k_ ≠ (.slice (some ad192) t188.length co7 : Value).ownBlock ∧ some k_ ≠ (.slice (some ad192) t188.length co7 : Value).ownBlock)) k_ ∧ some k_ ≠ (v238 : Value).ownBlock) rfl rfl ?aP (fun _ hk => hk) ?aF ?aO ?aB ?aS ?aL ?_; (case aP => exact (Kd.FK_slice_mk (Kd.R_reads' (Kd.R_mono (ok' := (fun k_ => ((fun k_ => (w.heap.size ≤ k_) ∧ some k_ ≠ (.slice (some ad192) t188.length co7 : Value).ownBlock ∧ some k_ ≠ (.slice (some ad192) t188.length co7 : Value).ownBlock)) k_ ∧ some k_ ≠ (v238 : Value).ownBlock)) (Kd.R_apart' (Kd.R_apart' (Kd.R_apart' (HO242.out) (Kd.N_typed HO_6.out) (by decide)) (Kd.N_typed HO_27.out) (by decide)) (Kd.N_typed HO239.out) (by decide)) (fun k_ hk => ⟨⟨hk.1.1.1.1, ⟨hk.1.1.2, hk.1.2⟩⟩, hk.2⟩))).2.1 (Kd.R_F (Kd.R_mono (ok' := (fun k_ => ((fun k_ => (w.heap.size ≤ k_) ∧ some k_ ≠ (.slice (some ad192) t188.length co7 : Value).ownBlock ∧ some k_ ≠ (.slice (some ad192) t188.length co7 : Value).ownBlock)) k_ ∧ some k_ ≠ (v238 : Value).ownBlock)) (Kd.R_apart' (Kd.R_apart' (Kd.R_apart' (HO242.out) (Kd.N_typed HO_6.out) (by decide)) (Kd.N_typed HO_27.out) (by decide)) (Kd.N_typed HO239.out) (by decide)) (fun k_ hk => ⟨⟨hk.1.1.1.1, ⟨hk.1.1.2, hk.1.2⟩⟩, hk.2⟩))))); (case aB => exact (by repeat (first | (with_reducible first | exact HB.out | apply below_alloc | apply pw_below_drewN | apply below_drew1) | exact HB.out))); (case aF => exact (fun k_ hk => ⟨(Nat.le_trans (below_size (by repeat (first | (with_reducible first | exact HB.out | apply below_alloc | apply pw_below_drewN | apply below_drew1) | exact HB.out))) hk), Kd.fresh' (Kd.N_lt (by (with_reducible repeat (first | apply Kd.N_alloc | apply Kd.N_drewN | apply Kd.N_drew)); exact HO_6.out)) k_ hk, Kd.fresh' (Kd.N_lt (by (with_reducible repeat (first | apply Kd.N_alloc | apply Kd.N_drewN | apply Kd.N_drew)); exact HO_27.out)) k_ hk⟩)); (case aO => exact (by (with_reducible repeat (first | apply Kd.N_alloc | apply Kd.N_drewN | apply Kd.N_drew)); exact Kd.N_mono HO239.out (fun _ hk => ⟨hk.1.1, ⟨hk.1.2.1, hk.1.2.2⟩⟩))); (case aS => exact (below_size (by repeat (first | (with_reducible first | exact HB.out | apply below_alloc | apply pw_below_drewN | apply below_drew1) | exact HB.out)))); (case aL => have := LMc53.out; omega); intro v244 w62 ho hb hg hat; rw [← Ny243.out] at ho; have n0_ := Aside0.mk (Kd.N_afterv (ok := (fun k_ => (w.heap.size ≤ k_) ∧ some k_ ≠ (.slice (some ad196) x8_1.length co20 : Value).ownBlock ∧ some k_ ≠ (.slice Ao63 t240.length co63 : Value).ownBlock)) (by (with_reducible repeat (first | apply Kd.N_alloc | apply Kd.N_drewN | apply Kd.N_drew)); exact Kd.N_mono HO_6.out (fun _ hk => ⟨⟨hk.1.1.1, ⟨hk.1.1.2, hk.2⟩⟩, hk.1.2⟩)) hg hat); have n1_ := Aside0.mk (Kd.N_afterv (ok := (fun k_ => (w.heap.size ≤ k_) ∧ some k_ ≠ (.slice (some ad192) t188.length co7 : Value).ownBlock ∧ some k_ ≠ (.slice (some ad192) t188.length co7 : Value).ownBlock ∧ some k_ ≠ (.slice Ao63 t240.length co63 : Value).ownBlock)) (by (with_reducible repeat (first | apply Kd.N_alloc | apply Kd.N_drewN | apply Kd.N_drew)); exact Kd.N_mono HO_8.out (fun _ hk => ⟨⟨hk.1.1.1, ⟨hk.1.1.2.1, ⟨hk.1.1.2.2, hk.2⟩⟩⟩, hk.1.2⟩)) hg hat); have n2_ := Aside0.mk (Kd.N_afterv (ok := (fun k_ => (w.heap.size ≤ k_) ∧ some k_ ≠ (.slice (some ad196) x8_1.length co20 : Value).ownBlock ∧ some k_ ≠ (.slice Ao63 t240.length co63 : Value).ownBlock)) (by (with_reducible repeat (first | apply Kd.N_alloc | apply Kd.N_drewN | apply Kd.N_drew)); exact Kd.N_mono HO_27.out (fun _ hk => ⟨⟨hk.1.1.1, ⟨hk.1.1.2, hk.2⟩⟩, hk.1.2⟩)) hg hat); have n3_ := Aside0.mk (Kd.V_afterv (ok := (fun k_ => (w.heap.size ≤ k_) ∧ some k_ ≠ (.slice (some ad192) t188.length co7 : Value).ownBlock ∧ some k_ ≠ (.slice (some ad196) x8_1.length co20 : Value).ownBlock ∧ some k_ ≠ (.slice (some ad192) t188.length co7 : Value).ownBlock ∧ some k_ ≠ (.slice Ao63 t240.length co63 : Value).ownBlock)) (by (with_reducible repeat (first | apply Kd.V_alloc | apply Kd.V_drewN | apply Kd.V_drew)); exact Kd.V_mono HL196_0.out (fun _ hk => ⟨⟨hk.1.1.1, ⟨hk.1.1.2.1, ⟨hk.1.1.2.2.1, ⟨hk.1.1.2.2.2, hk.2⟩⟩⟩⟩, hk.1.2⟩)) hg hat); have n4_ := Aside0.mk (Kd.V_afterv (ok := (fun k_ => (w.heap.size ≤ k_) ∧ some k_ ≠ (.slice (some ad192) t188.length co7 : Value).ownBlock ∧ some k_ ≠ (.slice (some ad196) x8_1.length co20 : Value).ownBlock ∧ some k_ ≠ (.slice (some ad192) t188.length co7 : Value).ownBlock ∧ some k_ ≠ (.slice Ao63 t240.length co63 : Value).ownBlock)) (by (with_reducible repeat (first | apply Kd.V_alloc | apply Kd.V_drewN | apply Kd.V_drew)); exact Kd.V_mono HL199_0.out (fun _ hk => ⟨⟨hk.1.1.1, ⟨hk.1.1.2.1, ⟨hk.1.1.2.2.1, ⟨hk.1.1.2.2.2, hk.2⟩⟩⟩⟩, hk.1.2⟩)) hg hat); have n5_ := Aside0.mk (Kd.V_afterv (ok := (fun k_ => (w.heap.size ≤ k_) ∧ some k_ ≠ (.slice (some ad192) t188.length co7 : Value).ownBlock ∧ some k_ ≠ (.slice (some ad192) t188.length co7 : Value).ownBlock ∧ some k_ ≠ (.slice Ao63 t240.length co63 : Value).ownBlock)) (by (with_reducible repeat (first | apply Kd.V_alloc | apply Kd.V_drewN | apply Kd.V_drew)); exact Kd.V_mono HO236.out (fun _ hk => ⟨⟨hk.1.1.1, ⟨hk.1.1.2.1, ⟨hk.1.1.2.2, hk.2⟩⟩⟩, hk.1.2⟩)) hg hat); have n6_ := Aside0.mk (hb); have n7_ := Aside0.mk (ho); clear HO_6; clear HO_8; clear HO_27; clear HL196_0; clear HL199_0; clear HO236; clear HB; clear HO239; clear HO242; have HO_6 := n0_; have HO_8 := n1_; have HO_27 := n2_; have HL196_0 := n3_; have HL199_0 := n4_; have HO236 := n5_; have HB := n6_; have HO245 := n7_; clear n0_ n1_ n2_ n3_ n4_ n5_ n6_ n7_; clear ho hb hg hat; have q64 : (x15_4 : Int) ≤ ((x8_1.length : Int) : Int) := of_decide_eq_true (by first | (with_reducible assumption) | assumption); obtain ⟨i064, hi064, _, hsz64, _⟩ := info_parts info36; have hroom64 : x8_1.length ≤ co20 := (Kd.N_reads' HO_8.out).2.1; have hC64 : Kd.F (Kd.slice 3 (Kd.int .i64)) _ _ (some ad196) x8_1.length x8_1 := (Kd.V_at (base := w.heap.size) (Kd.N_V HO_8.out)).2.2; have q064 : (0 : Int) ≤ (x15_4 : Int) := of_decide_eq_true (by first | (with_reducible assumption) | assumption); have hcut64 := cut_from (P := Tryd.prog) 25 36 .i64 Tryd.underlying25 hi064 1 hsz64 (some ad196) x8_1.length co20 x15_4 q064 q64; have hr64 := Kd.F_cut (m := (x15_4 : Int).toNat) (c := co20) hC64 (by omega) hroom64; obtain ⟨A64, hA64⟩ : ∃ AX_, AX_ = (if co20 = (x15_4 : Int).toNat then (some ad196) else ((some ad196) : Option Addr).map (·.add ((x15_4 : Int).toNat * 1))) := ⟨_, rfl⟩; obtain ⟨c64, hc64⟩ : ∃ cX_, cX_ = co20 - (x15_4 : Int).toNat := ⟨_, rfl⟩; have hy64 : y246.length = x8_1.length - (x15_4 : Int).toNat := (by rw [Ny246.out, List.length_drop] <;> omega); rw [show (x8_1).drop (x15_4 : Int).toNat = y246 from Ny246.out.symm] at hr64; replace hr64 : Kd.F (Kd.slice 3 (Kd.int .i64)) _ _ A64 y246.length y246 := (by rw [hA64]; exact hr64); rw [← hy64, ← hA64, ← hc64] at hcut64; have HO250 := Aside0.mk (show Kd.V (Kd.slice 3 (Kd.int .i64)) 36 _ w.heap.size _ (.slice A64 y246.length c64) y246 from Kd.V_mk (by rw [hy64, hc64]; exact Nat.sub_le_sub_right hroom64 _) hr64); have HC250 := Aside0.mk (show y246.length ≤ c64 from by rw [hy64, hc64]; exact Nat.sub_le_sub_right hroom64 _); clear hr64 hC64 hroom64 hi064 hsz64 hc64; have KY64 := Aside0.mk hy64; have KA64 := Aside0.mk hA64; clear hy64 hA64; replace q64 := eq_true q64) | ((with_reducible refine gate_builtin (b := .append) (xs := #[.tmp 113, .tmp 116]) rfl ?_); at_builtin; refine Kd.N_append_rows (Kd.slice 3 (Kd.int .i64)) (w0 := w) w.heap.size rfl (.tmp 113) (.tmp 116) 25 36 (.slice none 0 0) 24 rfl Tryd.underlying25 info36 rfl (by decide) (by omega) v244 y243 y246 _ _ _ (fun k_ => (w.heap.size ≤ k_) ∧ some k_ ≠ (.slice (some ad192) t188.length co7 : Value).ownBlock ∧ some k_ ≠ (.slice (some ad192) t188.length co7 : Value).ownBlock) (fun k_ => ((fun k_ => (w.heap.size ≤ k_) ∧ some k_ ≠ (.slice (some ad192) t188.length co7 : Value).ownBlock ∧ some k_ ≠ (.slice (some ad192) t188.length co7 : Value).ownBlock)) k_ ∧ some k_ ≠ (v244 : Value).ownBlock) rfl rfl ?aO ?aR (fun _ hk => hk) ?aF ?aB ?aS ?aL ?_; (case aR => exact (by skip; exact Kd.V_F (Kd.V_mono (ok' := (fun k_ => ((fun k_ => (w.heap.size ≤ k_) ∧ some k_ ≠ (.slice (some ad192) t188.length co7 : Value).ownBlock ∧ some k_ ≠ (.slice (some ad192) t188.length co7 : Value).ownBlock)) k_ ∧ some k_ ≠ (v244 : Value).ownBlock)) (HO250.out) (fun k_ hk => ⟨⟨hk.1.1, ⟨hk.1.2.1, hk.1.2.2.1⟩⟩, hk.2⟩)))); (case aB => exact (by repeat (first | (with_reducible first | exact HB.out | apply below_alloc | apply pw_below_drewN | apply below_drew1) | exact HB.out))); (case aF => exact (fun k_ hk => ⟨(Nat.le_trans (below_size (by repeat (first | (with_reducible first | exact HB.out | apply below_alloc | apply pw_below_drewN | apply below_drew1) | exact HB.out))) hk), Kd.fresh' (Kd.N_lt (by (with_reducible repeat (first | apply Kd.N_alloc | apply Kd.N_drewN | apply Kd.N_drew)); exact HO_6.out)) k_ hk, Kd.fresh' (Kd.N_lt (by (with_reducible repeat (first | apply Kd.N_alloc | apply Kd.N_drewN | apply Kd.N_drew)); exact HO_27.out)) k_ hk⟩)); (case aO => exact (by (with_reducible repeat (first | apply Kd.N_alloc | apply Kd.N_drewN | apply Kd.N_drew)); exact HO245.out)); (case aS => exact (below_size (by repeat (first | (with_reducible first | exact HB.out | apply below_alloc | apply pw_below_drewN | apply below_drew1) | exact HB.out)))); (case aL => have := LMc56.out; omega); intro v252 w65 ho hb hg hat; rw [← Ny251.out] at ho; have n0_ := Aside0.mk (Kd.N_afterv (ok := (fun k_ => (w.heap.size ≤ k_) ∧ some k_ ≠ (.slice (some ad196) x8_1.length co20 : Value).ownBlock)) (by (with_reducible repeat (first | apply Kd.N_alloc | apply Kd.N_drewN | apply Kd.N_drew)); exact Kd.N_mono HO_6.out (fun _ hk => ⟨⟨hk.1.1, hk.1.2.1⟩, hk.2⟩)) hg hat); have n1_ := Aside0.mk (Kd.N_afterv (ok := (fun k_ => (w.heap.size ≤ k_) ∧ some k_ ≠ (.slice (some ad192) t188.length co7 : Value).ownBlock ∧ some k_ ≠ (.slice (some ad192) t188.length co7 : Value).ownBlock)) (by (with_reducible repeat (first | apply Kd.N_alloc | apply Kd.N_drewN | apply Kd.N_drew)); exact Kd.N_mono HO_8.out (fun _ hk => ⟨⟨hk.1.1, ⟨hk.1.2.1, hk.1.2.2.1⟩⟩, hk.2⟩)) hg hat); have n2_ := Aside0.mk (Kd.N_afterv (ok := (fun k_ => (w.heap.size ≤ k_) ∧ some k_ ≠ (.slice (some ad196) x8_1.length co20 : Value).ownBlock)) (by (with_reducible repeat (first | apply Kd.N_alloc | apply Kd.N_drewN | apply Kd.N_drew)); exact Kd.N_mono HO_27.out (fun _ hk => ⟨⟨hk.1.1, hk.1.2.1⟩, hk.2⟩)) hg hat); have n3_ := Aside0.mk (Kd.V_afterv (ok := (fun k_ => (w.heap.size ≤ k_) ∧ some k_ ≠ (.slice (some ad192) t188.length co7 : Value).ownBlock ∧ some k_ ≠ (.slice (some ad196) x8_1.length co20 : Value).ownBlock ∧ some k_ ≠ (.slice (some ad192) t188.length co7 : Value).ownBlock)) (by (with_reducible repeat (first | apply Kd.V_alloc | apply Kd.V_drewN | apply Kd.V_drew)); exact Kd.V_mono HL196_0.out (fun _ hk => ⟨⟨hk.1.1, ⟨hk.1.2.1, ⟨hk.1.2.2.1, hk.1.2.2.2.1⟩⟩⟩, hk.2⟩)) hg hat); have n4_ := Aside0.mk (Kd.V_afterv (ok := (fun k_ => (w.heap.size ≤ k_) ∧ some k_ ≠ (.slice (some ad192) t188.length co7 : Value).ownBlock ∧ some k_ ≠ (.slice (some ad196) x8_1.length co20 : Value).ownBlock ∧ some k_ ≠ (.slice (some ad192) t188.length co7 : Value).ownBlock)) (by (with_reducible repeat (first | apply Kd.V_alloc | apply Kd.V_drewN | apply Kd.V_drew)); exact Kd.V_mono HL199_0.out (fun _ hk => ⟨⟨hk.1.1, ⟨hk.1.2.1, ⟨hk.1.2.2.1, hk.1.2.2.2.1⟩⟩⟩, hk.2⟩)) hg hat); have n5_ := Aside0.mk (Kd.V_afterv (ok := (fun k_ => (w.heap.size ≤ k_) ∧ some k_ ≠ (.slice (some ad192) t188.length co7 : Value).ownBlock ∧ some k_ ≠ (.slice (some ad192) t188.length co7 : Value).ownBlock)) (by (with_reducible repeat (first | apply Kd.V_alloc | apply Kd.V_drewN | apply Kd.V_drew)); exact Kd.V_mono HO236.out (fun _ hk => ⟨⟨hk.1.1, ⟨hk.1.2.1, hk.1.2.2.1⟩⟩, hk.2⟩)) hg hat); have n6_ := Aside0.mk (Kd.V_afterv (ok := (fun k_ => (w.heap.size ≤ k_) ∧ some k_ ≠ (.slice (some ad192) t188.length co7 : Value).ownBlock ∧ some k_ ≠ (.slice (some ad192) t188.length co7 : Value).ownBlock)) (by (with_reducible repeat (first | apply Kd.V_alloc | apply Kd.V_drewN | apply Kd.V_drew)); exact Kd.V_mono HO250.out (fun _ hk => ⟨⟨hk.1.1, ⟨hk.1.2.1, hk.1.2.2.1⟩⟩, hk.2⟩)) hg hat); have n7_ := Aside0.mk (hb); have n8_ := Aside0.mk (ho); clear HO_6; clear HO_8; clear HO_27; clear HL196_0; clear HL199_0; clear HO236; clear HO250; clear HB; clear HO245; have HO_6 := n0_; have HO_8 := n1_; have HO_27 := n2_; have HL196_0 := n3_; have HL199_0 := n4_; have HO236 := n5_; have HO250 := n6_; have HB := n7_; have HO253 := n8_; clear n0_ n1_ n2_ n3_ n4_ n5_ n6_ n7_ n8_; clear ho hb hg hat))
                                                      go_roundg k4
                                                      case measure => have := HK1.out; have := HK2.out; have := HJ16.out; have := HK4.out; omega
                                                      case rel => exact ⟨(y251), (wrap64 (x29_1 + 1)), (by first | rfl | (simp; done) | (simp [*]; done)), H', ⟨by have := HK1.out; have := HK2.out; have := HJ16.out; have := HK4.out; omega⟩, ⟨by (with_reducible repeat (first | apply Kd.N_alloc | apply Kd.N_drewN | apply Kd.N_drew)); exact Kd.N_mono HO_6.out (fun _ hk => ⟨hk.1.1, hk.2⟩)⟩, ⟨by (with_reducible repeat (first | apply Kd.N_alloc | apply Kd.N_drewN | apply Kd.N_drew)); exact HO253.out⟩, ⟨by (with_reducible repeat (first | apply Kd.N_alloc | apply Kd.N_drewN | apply Kd.N_drew)); exact Kd.N_mono HO_27.out (fun _ hk => ⟨hk.1.1, hk.2⟩)⟩, ⟨by repeat (first | (with_reducible first | exact HB.out | apply below_alloc | apply pw_below_drewN | apply below_drew1) | exact HB.out)⟩⟩
                                                    · rw [if_neg c56] at H
                                                      exact absurd H (by simp)
                                                  · rw [if_neg c53] at H
                                                    exact absurd H (by simp)
                                                · rw [if_neg c51] at H
                                                  exact absurd H (by simp)
                                              · rw [if_neg c50] at H
                                                exact absurd H (by simp)
                                            · rw [if_neg c49] at H
                                              exact absurd H (by simp)
                                      · rw [if_neg c26] at H
                                        exact absurd H (by simp)
                                    · rw [if_neg c25] at H
                                      exact absurd H (by simp)
                                  · rw [if_neg c24] at H
                                    exact absurd H (by simp)
                                · rw [if_neg c22] at H
                                  exact absurd H (by simp)
                              · rw [if_neg c21] at H
                                have c21b0 : decide (0 < x15_4) = false := decide_eq_false c21
                                clear c21
                                obtain ⟨y254, hy254⟩ : ∃ y_ : List (List Int), y_ = (([] : List (List Int))) := ⟨_, rfl⟩
                                replace H : (if 0 ≤ x15_4 then (if x15_4 ≤ (x8_1.length : Int) then ((some (x8_1.take (x15_4 : Int).toNat : List (List Int))).bind fun y257 => (if y254.length + y257.length < 5864062014805 then ((some (y254 ++ y257 : List (List Int))).bind fun y262 => ((spec_l1Own.f (rd_L4 t188 x29_1)).bind fun t265 => (if y262.length < 5864062014805 then ((some (y262 ++ [t265] : List (List Int))).bind fun y268 => ((some (x8_1.drop (x15_4 : Int).toNat : List (List Int))).bind fun y271 => (if y268.length + y271.length < 5864062014805 then (spec_CrossedPoints.l0 k4 t188 (y268 ++ y271) t188 (t188.length : Int) (wrap64 (x29_1 + 1))) else (none)))) else (none)))) else (none))) else (none)) else (none)) = some (r1, r2) := by first | (rw [hy254]; with_reducible exact H) | (have H2_ := (Option.bind_some _ _).symm.trans H; rw [hy254]; with_reducible exact H2_) | (have H2_ := (Option.bind_some _ _).symm.trans H; with_reducible exact H2_) | with_reducible exact H | (rw [hy254]; exact H) | exact H
                                have Ny254 := Aside0.mk hy254
                                clear hy254
                                by_cases c66 : 0 ≤ x15_4
                                · rw [if_pos c66] at H
                                  have c66b0 := eq_true c66
                                  have c66b1 : decide (0 ≤ x15_4) = true := decide_eq_true c66
                                  clear c66
                                  by_cases c67 : x15_4 ≤ (x8_1.length : Int)
                                  · rw [if_pos c67] at H
                                    have c67b0 := eq_true c67
                                    have c67b1 : decide (x15_4 ≤ (x8_1.length : Int)) = true := decide_eq_true c67
                                    clear c67
                                    obtain ⟨y257, hy257⟩ : ∃ y_ : List (List Int), y_ = (x8_1.take (x15_4 : Int).toNat) := ⟨_, rfl⟩
                                    replace H : (if y254.length + y257.length < 5864062014805 then ((some (y254 ++ y257 : List (List Int))).bind fun y262 => ((spec_l1Own.f (rd_L4 t188 x29_1)).bind fun t265 => (if y262.length < 5864062014805 then ((some (y262 ++ [t265] : List (List Int))).bind fun y268 => ((some (x8_1.drop (x15_4 : Int).toNat : List (List Int))).bind fun y271 => (if y268.length + y271.length < 5864062014805 then (spec_CrossedPoints.l0 k4 t188 (y268 ++ y271) t188 (t188.length : Int) (wrap64 (x29_1 + 1))) else (none)))) else (none)))) else (none)) = some (r1, r2) := by first | (rw [hy257]; with_reducible exact H) | (have H2_ := (Option.bind_some _ _).symm.trans H; rw [hy257]; with_reducible exact H2_) | (have H2_ := (Option.bind_some _ _).symm.trans H; with_reducible exact H2_) | with_reducible exact H | (rw [hy257]; exact H) | exact H
                                    have Ny257 := Aside0.mk hy257
                                    clear hy257
                                    by_cases c68 : y254.length + y257.length < 5864062014805
                                    · rw [if_pos c68] at H
                                      have LMc68 := Aside0.mk c68
                                      clear c68
                                      obtain ⟨y262, hy262⟩ : ∃ y_ : List (List Int), y_ = (y254 ++ y257) := ⟨_, rfl⟩
                                      replace H : ((spec_l1Own.f (rd_L4 t188 x29_1)).bind fun t265 => (if y262.length < 5864062014805 then ((some (y262 ++ [t265] : List (List Int))).bind fun y268 => ((some (x8_1.drop (x15_4 : Int).toNat : List (List Int))).bind fun y271 => (if y268.length + y271.length < 5864062014805 then (spec_CrossedPoints.l0 k4 t188 (y268 ++ y271) t188 (t188.length : Int) (wrap64 (x29_1 + 1))) else (none)))) else (none))) = some (r1, r2) := by first | (rw [hy262]; with_reducible exact H) | (have H2_ := (Option.bind_some _ _).symm.trans H; rw [hy262]; with_reducible exact H2_) | (have H2_ := (Option.bind_some _ _).symm.trans H; with_reducible exact H2_) | with_reducible exact H | (rw [hy262]; exact H) | exact H
                                      have Ny262 := Aside0.mk hy262
                                      clear hy262
                                      replace H := Option.bind_eq_some_iff.mp H
                                      obtain ⟨t265, A690, H⟩ := H
                                      replace H : (if y262.length < 5864062014805 then ((some (y262 ++ [t265] : List (List Int))).bind fun y268 => ((some (x8_1.drop (x15_4 : Int).toNat : List (List Int))).bind fun y271 => (if y268.length + y271.length < 5864062014805 then (spec_CrossedPoints.l0 k4 t188 (y268 ++ y271) t188 (t188.length : Int) (wrap64 (x29_1 + 1))) else (none)))) else (none)) = some (r1, r2) := H
                                      have A69 := Aside0.mk A690
                                      clear A690
                                      by_cases c70 : y262.length < 5864062014805
                                      · rw [if_pos c70] at H
                                        have LMc70 := Aside0.mk c70
                                        clear c70
                                        obtain ⟨y268, hy268⟩ : ∃ y_ : List (List Int), y_ = (y262 ++ [t265]) := ⟨_, rfl⟩
                                        replace H : ((some (x8_1.drop (x15_4 : Int).toNat : List (List Int))).bind fun y271 => (if y268.length + y271.length < 5864062014805 then (spec_CrossedPoints.l0 k4 t188 (y268 ++ y271) t188 (t188.length : Int) (wrap64 (x29_1 + 1))) else (none))) = some (r1, r2) := by first | (rw [hy268]; with_reducible exact H) | (have H2_ := (Option.bind_some _ _).symm.trans H; rw [hy268]; with_reducible exact H2_) | (have H2_ := (Option.bind_some _ _).symm.trans H; with_reducible exact H2_) | with_reducible exact H | (rw [hy268]; exact H) | exact H
                                        have Ny268 := Aside0.mk hy268
                                        clear hy268
                                        have c71b0 := eq_true (of_decide_eq_true (by first | (with_reducible assumption) | assumption) : 0 ≤ x15_4)
                                        have c72b0 := eq_true (of_decide_eq_true (by first | (with_reducible assumption) | assumption) : x15_4 ≤ (x8_1.length : Int))
                                        obtain ⟨y271, hy271⟩ : ∃ y_ : List (List Int), y_ = (x8_1.drop (x15_4 : Int).toNat) := ⟨_, rfl⟩
                                        replace H : (if y268.length + y271.length < 5864062014805 then (spec_CrossedPoints.l0 k4 t188 (y268 ++ y271) t188 (t188.length : Int) (wrap64 (x29_1 + 1))) else (none)) = some (r1, r2) := by first | (rw [hy271]; with_reducible exact H) | (have H2_ := (Option.bind_some _ _).symm.trans H; rw [hy271]; with_reducible exact H2_) | (have H2_ := (Option.bind_some _ _).symm.trans H; with_reducible exact H2_) | with_reducible exact H | (rw [hy271]; exact H) | exact H
                                        have Ny271 := Aside0.mk hy271
                                        clear hy271
                                        by_cases c73 : y268.length + y271.length < 5864062014805
                                        · rw [if_pos c73] at H
                                          have LMc73 := Aside0.mk c73
                                          clear c73
                                          obtain ⟨y276, hy276⟩ : ∃ y_ : List (List Int), y_ = (y268 ++ y271) := ⟨_, rfl⟩
                                          replace H : (spec_CrossedPoints.l0 k4 t188 y276 t188 (t188.length : Int) (wrap64 (x29_1 + 1))) = some (r1, r2) := by first | (rw [hy276]; with_reducible exact H) | (have H2_ := (Option.bind_some _ _).symm.trans H; rw [hy276]; with_reducible exact H2_) | (have H2_ := (Option.bind_some _ _).symm.trans H; with_reducible exact H2_) | with_reducible exact H | (rw [hy276]; exact H) | exact H
                                          have Ny276 := Aside0.mk hy276
                                          clear hy276
                                          have H' := Aside0.mk H
                                          clear H
                                          go_wp2_with (fail)
                                          go_quiet (fail)
                                          go_wp2_with (first | ((with_reducible refine gate_dst (N := 104) rfl ?_); refine Kd.N_lit (Kd.slice 3 (Kd.int .i64)) _ 36 ?hg (N' := 104) ?hd (xs := ([] : List (List Int))) (inner := []) (ok := (fun k_ => (w.heap.size ≤ k_) ∧ some k_ ≠ (.slice (some ad192) t188.length co7 : Value).ownBlock ∧ some k_ ≠ (.slice Ao20 x8_1.length co20 : Value).ownBlock ∧ some k_ ≠ (.slice (some ad192) t188.length co7 : Value).ownBlock)) (okp := (fun k_ => (w.heap.size ≤ k_) ∧ some k_ ≠ (.slice (some ad192) t188.length co7 : Value).ownBlock ∧ some k_ ≠ (.slice Ao20 x8_1.length co20 : Value).ownBlock ∧ some k_ ≠ (.slice (some ad192) t188.length co7 : Value).ownBlock)) ?hr ?hp (fun _ hk => hk) ((show ∀ k_, wr.heap.size ≤ k_ → (fun k_ => (w.heap.size ≤ k_) ∧ some k_ ≠ (.slice (some ad192) t188.length co7 : Value).ownBlock ∧ some k_ ≠ (.slice Ao20 x8_1.length co20 : Value).ownBlock ∧ some k_ ≠ (.slice (some ad192) t188.length co7 : Value).ownBlock) k_ from fun k_ hk => ⟨(Nat.le_trans (below_size (by repeat (first | (with_reducible first | exact HB.out | apply below_alloc | apply pw_below_drewN | apply below_drew1) | exact HB.out))) hk), Kd.fresh' (Kd.N_lt (by (with_reducible repeat (first | apply Kd.N_alloc | apply Kd.N_drewN | apply Kd.N_drew)); exact HO_6.out)) k_ hk, Kd.fresh' (Kd.N_lt (by (with_reducible repeat (first | apply Kd.N_alloc | apply Kd.N_drewN | apply Kd.N_drew)); exact HO_8.out)) k_ hk, Kd.fresh' (Kd.N_lt (by (with_reducible repeat (first | apply Kd.N_alloc | apply Kd.N_drewN | apply Kd.N_drew)); exact HO_27.out)) k_ hk⟩) _ (Nat.le_refl _)) (Below.refl _ _) (Nat.le_refl _) (by simp) ?_; (case hd => rfl); (case hg => rfl); (case hr => first | (go_simp; done) | (go_simp; rfl)); (case hp => exact (Reps.none _ _)); intro v255 w74 ho75 hb hg_ hnew_; have HRX0_ := Kd.C_drewN HR192_0.out nq; have HRX1_ := C_hold HRX0_ hb hnew_; have HRX_ := Aside0.mk HRX1_; clear HRX0_ HRX1_; clear hg_ hnew_; (first | rw [← Ny254.out] at ho75 | (simp only [Int.reduceToNat] at ho75; rw [← Ny254.out] at ho75)); have n0_ := Aside0.mk (Kd.N_elder' (by (with_reducible repeat (first | apply Kd.N_alloc | apply Kd.N_drewN | apply Kd.N_drew)); exact HO_6.out) (Kd.N_base ho75) hb); have n1_ := Aside0.mk (Kd.N_elder' (by (with_reducible repeat (first | apply Kd.N_alloc | apply Kd.N_drewN | apply Kd.N_drew)); exact HO_8.out) (Kd.N_base ho75) hb); have n2_ := Aside0.mk (Kd.N_elder' (by (with_reducible repeat (first | apply Kd.N_alloc | apply Kd.N_drewN | apply Kd.N_drew)); exact HO_27.out) (Kd.N_base ho75) hb); have n3_ := Aside0.mk (Kd.N_lower ho75 (below_size (by repeat (first | (with_reducible first | exact HB.out | apply below_alloc | apply pw_below_drewN | apply below_drew1) | exact HB.out)))); have n4_ := Aside0.mk (Kd.C_below (by first | (with_reducible exact Kd.C_drewN HR192_0.out _) | repeat (first | (with_reducible exact HR192_0.out) | (with_reducible refine Kd.C_alloc ?_ _) | (with_reducible refine Kd.C_drewN ?_ _) | (with_reducible refine Kd.C_drew ?_) | exact HR192_0.out)) hb); have n5_ := Aside0.mk (below_step (by repeat (first | (with_reducible first | exact HB.out | apply below_alloc | apply pw_below_drewN | apply below_drew1) | exact HB.out)) hb); clear HO_6; clear HO_8; clear HO_27; clear HR192_0; clear HB; have HO_6 := n0_; have HO_8 := n1_; have HO_27 := n2_; have HO256 := n3_; have HR192_0 := n4_; have HB := n5_; clear n0_ n1_ n2_ n3_ n4_ n5_; clear hb ho75; have q76 : (x15_4 : Int) ≤ ((x8_1.length : Int) : Int) := of_decide_eq_true (by first | (with_reducible assumption) | assumption); obtain ⟨i076, hi076, _, hsz76, _⟩ := info_parts info36; have hroom76 : x8_1.length ≤ co20 := (Kd.N_reads' HO_8.out).2.1; have hC76 : Kd.F (Kd.slice 3 (Kd.int .i64)) _ _ Ao20 x8_1.length x8_1 := (Kd.V_at (base := w.heap.size) (Kd.N_V HO_8.out)).2.2; have hcut76 := cut_to (P := Tryd.prog) 25 36 .i64 Tryd.underlying25 hi076 Ao20 x8_1.length co20 x15_4 (of_decide_eq_true (by first | (with_reducible assumption) | assumption)) q76 hroom76; have hr76 := Kd.F_take (m := (x15_4 : Int).toNat) hC76 (by omega); have hy76 : y257.length = (x15_4 : Int).toNat := (by rw [Ny257.out, List.length_take]; omega); rw [← Ny257.out] at hr76; rw [← hy76] at hcut76; have HO261 := Aside0.mk (show Kd.V (Kd.slice 3 (Kd.int .i64)) 36 _ w.heap.size _ (.slice Ao20 y257.length co20) y257 from Kd.V_mk (by omega) hr76); have HC261 := Aside0.mk (show y257.length ≤ co20 from by omega); clear hr76 hC76 hroom76 hi076 hsz76; have KY76 := Aside0.mk hy76; clear hy76; replace q76 := eq_true q76) | ((with_reducible refine gate_builtin (b := .append) (xs := #[.tmp 104, .tmp 107]) rfl ?_); at_builtin; refine Kd.N_append_rows (Kd.slice 3 (Kd.int .i64)) (w0 := w) w.heap.size rfl (.tmp 104) (.tmp 107) 25 36 (.slice none 0 0) 24 rfl Tryd.underlying25 info36 rfl (by decide) (by omega) v255 y254 y257 _ _ _ (fun k_ => (w.heap.size ≤ k_) ∧ some k_ ≠ (.slice (some ad192) t188.length co7 : Value).ownBlock ∧ some k_ ≠ (.slice (some ad192) t188.length co7 : Value).ownBlock) (fun k_ => ((fun k_ => (w.heap.size ≤ k_) ∧ some k_ ≠ (.slice (some ad192) t188.length co7 : Value).ownBlock ∧ some k_ ≠ (.slice (some ad192) t188.length co7 : Value).ownBlock)) k_ ∧ some k_ ≠ (v255 : Value).ownBlock) rfl rfl ?aO ?aR (fun _ hk => hk) ?aF ?aB ?aS ?aL ?_; (case aR => exact (by skip; exact Kd.V_F (Kd.V_mono (ok' := (fun k_ => ((fun k_ => (w.heap.size ≤ k_) ∧ some k_ ≠ (.slice (some ad192) t188.length co7 : Value).ownBlock ∧ some k_ ≠ (.slice (some ad192) t188.length co7 : Value).ownBlock)) k_ ∧ some k_ ≠ (v255 : Value).ownBlock)) (HO261.out) (fun k_ hk => ⟨⟨hk.1.1, ⟨hk.1.2.1, hk.1.2.2⟩⟩, hk.2⟩)))); (case aB => exact (by repeat (first | (with_reducible first | exact HB.out | apply below_alloc | apply pw_below_drewN | apply below_drew1) | exact HB.out))); (case aF => exact (fun k_ hk => ⟨(Nat.le_trans (below_size (by repeat (first | (with_reducible first | exact HB.out | apply below_alloc | apply pw_below_drewN | apply below_drew1) | exact HB.out))) hk), Kd.fresh' (Kd.N_lt (by (with_reducible repeat (first | apply Kd.N_alloc | apply Kd.N_drewN | apply Kd.N_drew)); exact HO_6.out)) k_ hk, Kd.fresh' (Kd.N_lt (by (with_reducible repeat (first | apply Kd.N_alloc | apply Kd.N_drewN | apply Kd.N_drew)); exact HO_27.out)) k_ hk⟩)); (case aO => exact (by (with_reducible repeat (first | apply Kd.N_alloc | apply Kd.N_drewN | apply Kd.N_drew)); exact Kd.N_mono HO256.out (fun _ hk => ⟨hk.1, ⟨hk.2.1, hk.2.2.2⟩⟩))); (case aS => exact (below_size (by repeat (first | (with_reducible first | exact HB.out | apply below_alloc | apply pw_below_drewN | apply below_drew1) | exact HB.out)))); (case aL => have := LMc68.out; omega); intro v263 w77 ho hb hg hat; have nX_ := Aside0.mk (HRX_.out _ hg); clear HR192_0; have HR192_0 := nX_; clear nX_; rw [← Ny262.out] at ho; have n0_ := Aside0.mk (Kd.N_afterv (ok := (fun k_ => (w.heap.size ≤ k_) ∧ some k_ ≠ (.slice Ao20 x8_1.length co20 : Value).ownBlock)) (by (with_reducible repeat (first | apply Kd.N_alloc | apply Kd.N_drewN | apply Kd.N_drew)); exact HO_6.out) hg hat); have n1_ := Aside0.mk (Kd.N_afterv (ok := (fun k_ => (w.heap.size ≤ k_) ∧ some k_ ≠ (.slice (some ad192) t188.length co7 : Value).ownBlock ∧ some k_ ≠ (.slice (some ad192) t188.length co7 : Value).ownBlock)) (by (with_reducible repeat (first | apply Kd.N_alloc | apply Kd.N_drewN | apply Kd.N_drew)); exact HO_8.out) hg hat); have n2_ := Aside0.mk (Kd.N_afterv (ok := (fun k_ => (w.heap.size ≤ k_) ∧ some k_ ≠ (.slice Ao20 x8_1.length co20 : Value).ownBlock)) (by (with_reducible repeat (first | apply Kd.N_alloc | apply Kd.N_drewN | apply Kd.N_drew)); exact HO_27.out) hg hat); have n3_ := Aside0.mk (Kd.V_afterv (ok := (fun k_ => (w.heap.size ≤ k_) ∧ some k_ ≠ (.slice (some ad192) t188.length co7 : Value).ownBlock ∧ some k_ ≠ (.slice (some ad192) t188.length co7 : Value).ownBlock)) (by (with_reducible repeat (first | apply Kd.V_alloc | apply Kd.V_drewN | apply Kd.V_drew)); exact HO261.out) hg hat); have n4_ := Aside0.mk (hb); have n5_ := Aside0.mk (ho); clear HO_6; clear HO_8; clear HO_27; clear HO261; clear HB; clear HO256; have HO_6 := n0_; have HO_8 := n1_; have HO_27 := n2_; have HO261 := n3_; have HB := n4_; have HO264 := n5_; clear n0_ n1_ n2_ n3_ n4_ n5_; clear ho hb hg hat) | (go_at_call 22; (with_reducible refine (spec_l1Own.calls _ _ (rd_L4 t188 x29_1) t265 _ ?side1 ?side2 A69.out).mono ?_); (case side1 => repeat (first | exact HR192_0.out | (with_reducible refine Kd.C_alloc ?_ _) | (with_reducible refine Kd.C_drewN ?_ _) | (with_reducible refine Kd.C_drew ?_))); (case side2 => exact HC192_0.out); rintro e w78 ⟨v266, rfl, ho0, hb⟩; have n0_ := Aside0.mk (Kd.N_elder' (by (with_reducible repeat (first | apply Kd.N_alloc | apply Kd.N_drewN | apply Kd.N_drew)); exact HO_6.out) (Kd.R_base ho0) hb); have n1_ := Aside0.mk (Kd.N_elder' (by (with_reducible repeat (first | apply Kd.N_alloc | apply Kd.N_drewN | apply Kd.N_drew)); exact HO_8.out) (Kd.R_base ho0) hb); have n2_ := Aside0.mk (Kd.N_elder' (by (with_reducible repeat (first | apply Kd.N_alloc | apply Kd.N_drewN | apply Kd.N_drew)); exact HO_27.out) (Kd.R_base ho0) hb); have n3_ := Aside0.mk (Kd.V_elder' (by (with_reducible repeat (first | apply Kd.V_alloc | apply Kd.V_drewN | apply Kd.V_drew)); exact HO261.out) (Kd.R_base ho0) hb); have n4_ := Aside0.mk (Kd.N_elder' (by (with_reducible repeat (first | apply Kd.N_alloc | apply Kd.N_drewN | apply Kd.N_drew)); exact HO264.out) (Kd.R_base ho0) hb); have n5_ := Aside0.mk (Kd.R_lower (Kd.R_newM (M := fun k_ => (w.heap.size ≤ k_)) ho0 (below_size (by repeat (first | (with_reducible first | exact HB.out | apply below_alloc | apply pw_below_drewN | apply below_drew1) | exact HB.out))) (fun k_ h_ => h_)) (below_size (by repeat (first | (with_reducible first | exact HB.out | apply below_alloc | apply pw_below_drewN | apply below_drew1) | exact HB.out)))); have n6_ := Aside0.mk (below_step (by repeat (first | (with_reducible first | exact HB.out | apply below_alloc | apply pw_below_drewN | apply below_drew1) | exact HB.out)) hb); clear HO_6; clear HO_8; clear HO_27; clear HO261; clear HO264; clear HB; have HO_6 := n0_; have HO_8 := n1_; have HO_27 := n2_; have HO261 := n3_; have HO264 := n4_; have HO267 := n5_; have HB := n6_; clear n0_ n1_ n2_ n3_ n4_ n5_ n6_; (try clear hb); (try clear hb2); (try clear hk); (try clear hi); (try clear ho0); obtain ⟨Ao80, co80, eo80⟩ := Kd.R_slice HO267.out; subst eo80) | ((with_reducible refine gate_builtin (b := .append) (xs := #[.tmp 108, .tmp 111]) rfl ?_); at_builtin; refine Kd.N_append (Kd.slice 3 (Kd.int .i64)) (w0 := w) w.heap.size rfl (.tmp 108) (.tmp 111) 25 36 (.slice none 0 0) 24 rfl Tryd.underlying25 info36 rfl (by decide) (by omega) v263 y262 t265 [.slice Ao80 t265.length co80] (fun k_ => (w.heap.size ≤ k_) ∧ some k_ ≠ (.slice (some ad192) t188.length co7 : Value).ownBlock ∧ some k_ ≠ (.slice (some ad192) t188.length co7 : Value).ownBlock) (fun k_ => ((fun k_ => (w.heap.size ≤ k_) ∧ some k_ ≠ (.slice (some ad192) t188.length co7 : Value).ownBlock ∧ some k_ ≠ (.slice (some ad192) t188.length co7 : Value).ownBlock)) k_ ∧ some k_ ≠ (v263 : Value).ownBlock) rfl rfl ?aP (fun _ hk => hk) ?aF ?aO ?aB ?aS ?aL ?_; (case aP => exact (Kd.FK_slice_mk (Kd.R_reads' (Kd.R_mono (ok' := (fun k_ => ((fun k_ => (w.heap.size ≤ k_) ∧ some k_ ≠ (.slice (some ad192) t188.length co7 : Value).ownBlock ∧ some k_ ≠ (.slice (some ad192) t188.length co7 : Value).ownBlock)) k_ ∧ some k_ ≠ (v263 : Value).ownBlock)) (Kd.R_apart' (Kd.R_apart' (Kd.R_apart' (HO267.out) (Kd.N_typed HO_6.out) (by decide)) (Kd.N_typed HO_27.out) (by decide)) (Kd.N_typed HO264.out) (by decide)) (fun k_ hk => ⟨⟨hk.1.1.1.1, ⟨hk.1.1.2, hk.1.2⟩⟩, hk.2⟩))).2.1 (Kd.R_F (Kd.R_mono (ok' := (fun k_ => ((fun k_ => (w.heap.size ≤ k_) ∧ some k_ ≠ (.slice (some ad192) t188.length co7 : Value).ownBlock ∧ some k_ ≠ (.slice (some ad192) t188.length co7 : Value).ownBlock)) k_ ∧ some k_ ≠ (v263 : Value).ownBlock)) (Kd.R_apart' (Kd.R_apart' (Kd.R_apart' (HO267.out) (Kd.N_typed HO_6.out) (by decide)) (Kd.N_typed HO_27.out) (by decide)) (Kd.N_typed HO264.out) (by decide)) (fun k_ hk => ⟨⟨hk.1.1.1.1, ⟨hk.1.1.2, hk.1.2⟩⟩, hk.2⟩))))); (case aB => exact (by repeat (first | (with_reducible first | exact HB.out | apply below_alloc | apply pw_below_drewN | apply below_drew1) | exact HB.out))); (case aF => exact (fun k_ hk => ⟨(Nat.le_trans (below_size (by repeat (first | (with_reducible first | exact HB.out | apply below_alloc | apply pw_below_drewN | apply below_drew1) | exact HB.out))) hk), Kd.fresh' (Kd.N_lt (by (with_reducible repeat (first | apply Kd.N_alloc | apply Kd.N_drewN | apply Kd.N_drew)); exact HO_6.out)) k_ hk, Kd.fresh' (Kd.N_lt (by (with_reducible repeat (first | apply Kd.N_alloc | apply Kd.N_drewN | apply Kd.N_drew)); exact HO_27.out)) k_ hk⟩)); (case aO => exact (by (with_reducible repeat (first | apply Kd.N_alloc | apply Kd.N_drewN | apply Kd.N_drew)); exact Kd.N_mono HO264.out (fun _ hk => ⟨hk.1.1, ⟨hk.1.2.1, hk.1.2.2⟩⟩))); (case aS => exact (below_size (by repeat (first | (with_reducible first | exact HB.out | apply below_alloc | apply pw_below_drewN | apply below_drew1) | exact HB.out)))); (case aL => have := LMc70.out; omega); intro v269 w79 ho hb hg hat; rw [← Ny268.out] at ho; have n0_ := Aside0.mk (Kd.N_afterv (ok := (fun k_ => (w.heap.size ≤ k_) ∧ some k_ ≠ (.slice Ao20 x8_1.length co20 : Value).ownBlock ∧ some k_ ≠ (.slice Ao80 t265.length co80 : Value).ownBlock)) (by (with_reducible repeat (first | apply Kd.N_alloc | apply Kd.N_drewN | apply Kd.N_drew)); exact Kd.N_mono HO_6.out (fun _ hk => ⟨⟨hk.1.1.1, ⟨hk.1.1.2, hk.2⟩⟩, hk.1.2⟩)) hg hat); have n1_ := Aside0.mk (Kd.N_afterv (ok := (fun k_ => (w.heap.size ≤ k_) ∧ some k_ ≠ (.slice (some ad192) t188.length co7 : Value).ownBlock ∧ some k_ ≠ (.slice (some ad192) t188.length co7 : Value).ownBlock ∧ some k_ ≠ (.slice Ao80 t265.length co80 : Value).ownBlock)) (by (with_reducible repeat (first | apply Kd.N_alloc | apply Kd.N_drewN | apply Kd.N_drew)); exact Kd.N_mono HO_8.out (fun _ hk => ⟨⟨hk.1.1.1, ⟨hk.1.1.2.1, ⟨hk.1.1.2.2, hk.2⟩⟩⟩, hk.1.2⟩)) hg hat); have n2_ := Aside0.mk (Kd.N_afterv (ok := (fun k_ => (w.heap.size ≤ k_) ∧ some k_ ≠ (.slice Ao20 x8_1.length co20 : Value).ownBlock ∧ some k_ ≠ (.slice Ao80 t265.length co80 : Value).ownBlock)) (by (with_reducible repeat (first | apply Kd.N_alloc | apply Kd.N_drewN | apply Kd.N_drew)); exact Kd.N_mono HO_27.out (fun _ hk => ⟨⟨hk.1.1.1, ⟨hk.1.1.2, hk.2⟩⟩, hk.1.2⟩)) hg hat); have n3_ := Aside0.mk (Kd.V_afterv (ok := (fun k_ => (w.heap.size ≤ k_) ∧ some k_ ≠ (.slice (some ad192) t188.length co7 : Value).ownBlock ∧ some k_ ≠ (.slice (some ad192) t188.length co7 : Value).ownBlock ∧ some k_ ≠ (.slice Ao80 t265.length co80 : Value).ownBlock)) (by (with_reducible repeat (first | apply Kd.V_alloc | apply Kd.V_drewN | apply Kd.V_drew)); exact Kd.V_mono HO261.out (fun _ hk => ⟨⟨hk.1.1.1, ⟨hk.1.1.2.1, ⟨hk.1.1.2.2, hk.2⟩⟩⟩, hk.1.2⟩)) hg hat); have n4_ := Aside0.mk (hb); have n5_ := Aside0.mk (ho); clear HO_6; clear HO_8; clear HO_27; clear HO261; clear HB; clear HO264; clear HO267; have HO_6 := n0_; have HO_8 := n1_; have HO_27 := n2_; have HO261 := n3_; have HB := n4_; have HO270 := n5_; clear n0_ n1_ n2_ n3_ n4_ n5_; clear ho hb hg hat; have q81 : (x15_4 : Int) ≤ ((x8_1.length : Int) : Int) := of_decide_eq_true (by first | (with_reducible assumption) | assumption); obtain ⟨i081, hi081, _, hsz81, _⟩ := info_parts info36; have hroom81 : x8_1.length ≤ co20 := (Kd.N_reads' HO_8.out).2.1; have hC81 : Kd.F (Kd.slice 3 (Kd.int .i64)) _ _ Ao20 x8_1.length x8_1 := (Kd.V_at (base := w.heap.size) (Kd.N_V HO_8.out)).2.2; have q081 : (0 : Int) ≤ (x15_4 : Int) := of_decide_eq_true (by first | (with_reducible assumption) | assumption); have hcut81 := cut_from (P := Tryd.prog) 25 36 .i64 Tryd.underlying25 hi081 1 hsz81 Ao20 x8_1.length co20 x15_4 q081 q81; have hr81 := Kd.F_cut (m := (x15_4 : Int).toNat) (c := co20) hC81 (by omega) hroom81; obtain ⟨A81, hA81⟩ : ∃ AX_, AX_ = (if co20 = (x15_4 : Int).toNat then Ao20 else (Ao20 : Option Addr).map (·.add ((x15_4 : Int).toNat * 1))) := ⟨_, rfl⟩; obtain ⟨c81, hc81⟩ : ∃ cX_, cX_ = co20 - (x15_4 : Int).toNat := ⟨_, rfl⟩; have hy81 : y271.length = x8_1.length - (x15_4 : Int).toNat := (by rw [Ny271.out, List.length_drop] <;> omega); rw [show (x8_1).drop (x15_4 : Int).toNat = y271 from Ny271.out.symm] at hr81; replace hr81 : Kd.F (Kd.slice 3 (Kd.int .i64)) _ _ A81 y271.length y271 := (by rw [hA81]; exact hr81); rw [← hy81, ← hA81, ← hc81] at hcut81; have HO275 := Aside0.mk (show Kd.V (Kd.slice 3 (Kd.int .i64)) 36 _ w.heap.size _ (.slice A81 y271.length c81) y271 from Kd.V_mk (by rw [hy81, hc81]; exact Nat.sub_le_sub_right hroom81 _) hr81); have HC275 := Aside0.mk (show y271.length ≤ c81 from by rw [hy81, hc81]; exact Nat.sub_le_sub_right hroom81 _); clear hr81 hC81 hroom81 hi081 hsz81 hc81; have KY81 := Aside0.mk hy81; have KA81 := Aside0.mk hA81; clear hy81 hA81; replace q81 := eq_true q81) | ((with_reducible refine gate_builtin (b := .append) (xs := #[.tmp 113, .tmp 116]) rfl ?_); at_builtin; refine Kd.N_append_rows (Kd.slice 3 (Kd.int .i64)) (w0 := w) w.heap.size rfl (.tmp 113) (.tmp 116) 25 36 (.slice none 0 0) 24 rfl Tryd.underlying25 info36 rfl (by decide) (by omega) v269 y268 y271 _ _ _ (fun k_ => (w.heap.size ≤ k_) ∧ some k_ ≠ (.slice (some ad192) t188.length co7 : Value).ownBlock ∧ some k_ ≠ (.slice (some ad192) t188.length co7 : Value).ownBlock) (fun k_ => ((fun k_ => (w.heap.size ≤ k_) ∧ some k_ ≠ (.slice (some ad192) t188.length co7 : Value).ownBlock ∧ some k_ ≠ (.slice (some ad192) t188.length co7 : Value).ownBlock)) k_ ∧ some k_ ≠ (v269 : Value).ownBlock) rfl rfl ?aO ?aR (fun _ hk => hk) ?aF ?aB ?aS ?aL ?_; (case aR => exact (by skip; exact Kd.V_F (Kd.V_mono (ok' := (fun k_ => ((fun k_ => (w.heap.size ≤ k_) ∧ some k_ ≠ (.slice (some ad192) t188.length co7 : Value).ownBlock ∧ some k_ ≠ (.slice (some ad192) t188.length co7 : Value).ownBlock)) k_ ∧ some k_ ≠ (v269 : Value).ownBlock)) (HO275.out) (fun k_ hk => ⟨⟨hk.1.1, ⟨hk.1.2.1, hk.1.2.2.1⟩⟩, hk.2⟩)))); (case aB => exact (by repeat (first | (with_reducible first | exact HB.out | apply below_alloc | apply pw_below_drewN | apply below_drew1) | exact HB.out))); (case aF => exact (fun k_ hk => ⟨(Nat.le_trans (below_size (by repeat (first | (with_reducible first | exact HB.out | apply below_alloc | apply pw_below_drewN | apply below_drew1) | exact HB.out))) hk), Kd.fresh' (Kd.N_lt (by (with_reducible repeat (first | apply Kd.N_alloc | apply Kd.N_drewN | apply Kd.N_drew)); exact HO_6.out)) k_ hk, Kd.fresh' (Kd.N_lt (by (with_reducible repeat (first | apply Kd.N_alloc | apply Kd.N_drewN | apply Kd.N_drew)); exact HO_27.out)) k_ hk⟩)); (case aO => exact (by (with_reducible repeat (first | apply Kd.N_alloc | apply Kd.N_drewN | apply Kd.N_drew)); exact HO270.out)); (case aS => exact (below_size (by repeat (first | (with_reducible first | exact HB.out | apply below_alloc | apply pw_below_drewN | apply below_drew1) | exact HB.out)))); (case aL => have := LMc73.out; omega); intro v277 w82 ho hb hg hat; rw [← Ny276.out] at ho; have n0_ := Aside0.mk (Kd.N_afterv (ok := (fun k_ => (w.heap.size ≤ k_) ∧ some k_ ≠ (.slice Ao20 x8_1.length co20 : Value).ownBlock)) (by (with_reducible repeat (first | apply Kd.N_alloc | apply Kd.N_drewN | apply Kd.N_drew)); exact Kd.N_mono HO_6.out (fun _ hk => ⟨⟨hk.1.1, hk.1.2.1⟩, hk.2⟩)) hg hat); have n1_ := Aside0.mk (Kd.N_afterv (ok := (fun k_ => (w.heap.size ≤ k_) ∧ some k_ ≠ (.slice (some ad192) t188.length co7 : Value).ownBlock ∧ some k_ ≠ (.slice (some ad192) t188.length co7 : Value).ownBlock)) (by (with_reducible repeat (first | apply Kd.N_alloc | apply Kd.N_drewN | apply Kd.N_drew)); exact Kd.N_mono HO_8.out (fun _ hk => ⟨⟨hk.1.1, ⟨hk.1.2.1, hk.1.2.2.1⟩⟩, hk.2⟩)) hg hat); have n2_ := Aside0.mk (Kd.N_afterv (ok := (fun k_ => (w.heap.size ≤ k_) ∧ some k_ ≠ (.slice Ao20 x8_1.length co20 : Value).ownBlock)) (by (with_reducible repeat (first | apply Kd.N_alloc | apply Kd.N_drewN | apply Kd.N_drew)); exact Kd.N_mono HO_27.out (fun _ hk => ⟨⟨hk.1.1, hk.1.2.1⟩, hk.2⟩)) hg hat); have n3_ := Aside0.mk (Kd.V_afterv (ok := (fun k_ => (w.heap.size ≤ k_) ∧ some k_ ≠ (.slice (some ad192) t188.length co7 : Value).ownBlock ∧ some k_ ≠ (.slice (some ad192) t188.length co7 : Value).ownBlock)) (by (with_reducible repeat (first | apply Kd.V_alloc | apply Kd.V_drewN | apply Kd.V_drew)); exact Kd.V_mono HO261.out (fun _ hk => ⟨⟨hk.1.1, ⟨hk.1.2.1, hk.1.2.2.1⟩⟩, hk.2⟩)) hg hat); have n4_ := Aside0.mk (Kd.V_afterv (ok := (fun k_ => (w.heap.size ≤ k_) ∧ some k_ ≠ (.slice (some ad192) t188.length co7 : Value).ownBlock ∧ some k_ ≠ (.slice (some ad192) t188.length co7 : Value).ownBlock)) (by (with_reducible repeat (first | apply Kd.V_alloc | apply Kd.V_drewN | apply Kd.V_drew)); exact Kd.V_mono HO275.out (fun _ hk => ⟨⟨hk.1.1, ⟨hk.1.2.1, hk.1.2.2.1⟩⟩, hk.2⟩)) hg hat); have n5_ := Aside0.mk (hb); have n6_ := Aside0.mk (ho); clear HO_6; clear HO_8; clear HO_27; clear HO261; clear HO275; clear HB; clear HO270; have HO_6 := n0_; have HO_8 := n1_; have HO_27 := n2_; have HO261 := n3_; have HO275 := n4_; have HB := n5_; have HO278 := n6_; clear n0_ n1_ n2_ n3_ n4_ n5_ n6_; clear ho hb hg hat))
                                          go_roundg k4
                                          case measure => have := HK1.out; have := HK2.out; have := HJ16.out; have := HK4.out; omega
                                          case rel => exact ⟨(y276), (wrap64 (x29_1 + 1)), (by first | rfl | (simp; done) | (simp [*]; done)), H', ⟨by have := HK1.out; have := HK2.out; have := HJ16.out; have := HK4.out; omega⟩, ⟨by (with_reducible repeat (first | apply Kd.N_alloc | apply Kd.N_drewN | apply Kd.N_drew)); exact Kd.N_mono HO_6.out (fun _ hk => ⟨hk.1.1, hk.2⟩)⟩, ⟨by (with_reducible repeat (first | apply Kd.N_alloc | apply Kd.N_drewN | apply Kd.N_drew)); exact HO278.out⟩, ⟨by (with_reducible repeat (first | apply Kd.N_alloc | apply Kd.N_drewN | apply Kd.N_drew)); exact Kd.N_mono HO_27.out (fun _ hk => ⟨hk.1.1, hk.2⟩)⟩, ⟨by repeat (first | (with_reducible first | exact HB.out | apply below_alloc | apply pw_below_drewN | apply below_drew1) | exact HB.out)⟩⟩
                                        · rw [if_neg c73] at H
                                          exact absurd H (by simp)
                                      · rw [if_neg c70] at H
                                        exact absurd H (by simp)
                                    · rw [if_neg c68] at H
                                      exact absurd H (by simp)
                                  · rw [if_neg c67] at H
                                    exact absurd H (by simp)
                                · rw [if_neg c66] at H
                                  exact absurd H (by simp)
            · rw [if_neg c10] at H
              exact absurd H (by simp)
          · rw [if_neg c9] at H
            exact absurd H (by simp)
        · rw [if_neg c8] at H
          have c8b0 : decide (x29_1 < (t188.length : Int)) = false := decide_eq_false c8
          clear c8
          simp only [Option.some.injEq, Prod.mk.injEq] at H
          obtain ⟨rfl, rfl⟩ := H
          go_wp2
          repeat (go_quiet (fail); try go_wp2)
          go_ret2
          exact ⟨_, by first | rfl | (simp [errW_none, errW_some] <;> rfl) | (simp [*, errW_none, errW_some] <;> rfl), by (with_reducible repeat (first | apply Kd.N_alloc | apply Kd.N_drewN | apply Kd.N_drew)); exact Kd.N_mono HO_8.out (fun _ hk => hk.1), by repeat (first | (with_reducible first | exact HB.out | apply below_alloc | apply pw_below_drewN | apply below_drew1) | exact HB.out)⟩
  · replace c4 := Bool.eq_false_iff.mpr c4
    subst c4
    have H1 : (some (([] : List (List Int)), false)) = some (r1, r2) := by rw [if_neg (show ¬ (false = true) by decide)] at H; exact H
    clear H
    have H := H1
    clear H1
    simp only [Option.some.injEq, Prod.mk.injEq] at H
    obtain ⟨rfl, rfl⟩ := H
    go_enter Tryd.func10, Tryd.ntmps10
    go_wp2_with (first | (go_at_call 15; (with_reducible refine (spec_paAsked.calls k a0 a1 false _ A3.out).mono ?_); rintro e w' ⟨rfl, ⟨nd, rfl⟩⟩; (try first | exact ⟨rfl, _, World.drewN_drewN _ _ _⟩ | exact ⟨rfl, _, Eq.trans (World.drewN_drewN _ _ _) (congrArg (World.drewN _) (Nat.add_assoc _ _ _))⟩)))
    repeat (go_quiet (first | (go_at_call 15; (with_reducible refine (spec_paAsked.calls k a0 a1 false _ A3.out).mono ?_); rintro e w' ⟨rfl, ⟨nd, rfl⟩⟩; (try first | exact ⟨rfl, _, World.drewN_drewN _ _ _⟩ | exact ⟨rfl, _, Eq.trans (World.drewN_drewN _ _ _) (congrArg (World.drewN _) (Nat.add_assoc _ _ _))⟩))); try go_wp2_with (first | (go_at_call 15; (with_reducible refine (spec_paAsked.calls k a0 a1 false _ A3.out).mono ?_); rintro e w' ⟨rfl, ⟨nd, rfl⟩⟩; (try first | exact ⟨rfl, _, World.drewN_drewN _ _ _⟩ | exact ⟨rfl, _, Eq.trans (World.drewN_drewN _ _ _) (congrArg (World.drewN _) (Nat.add_assoc _ _ _))⟩))))
    go_ret2
    exact ⟨_, by first | rfl | (simp [errW_none, errW_some] <;> rfl) | (simp [*, errW_none, errW_some] <;> rfl), by first | exact Kd.S_nil _ _ _ _ _ | exact Kd.N_nil _ _ _ _ _ | exact Kd.V_nil _ _ _ _ _ | exact Kd.Q_nil _ _ _ _ _ | exact Kd.R_nil _ _ _ _ _, by repeat (first | (with_reducible first | exact HB.out | apply below_alloc | apply pw_below_drewN | apply below_drew1) | exact HB.out)⟩

end Go.Proofs.YtlnjfbnabjgffaaDoor.X
