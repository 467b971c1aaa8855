-- Written by a program of this work (wip/tools/xprint.py, which drives the kit's print over a whole seat). Not trusted: it is checked when it is built.
import Derived.StillTailTactics
import Derived.Test.YtlnjfbnabjgffaaDoorXx0
namespace Go.Proofs.YtlnjfbnabjgffaaDoor.X
open Go.RowKit Go.Proofs.YtlnjfbnabjgffaaDoorW.PrintWords Go.Proofs.YtlnjfbnabjgffaaDoorW.PrintLast Go.Proofs.YtlnjfbnabjgffaaDoorW.PrintMore
attribute [local go_sem] max2_int min2_int max_two min_two max_three min_three max_four min_four   -- for this text's walks alone
set_option linter.unusedVariables false
set_option linter.unusedSimpArgs false

/-! ### impl_walker_do: function 37 (given by hand) -/
/-- What a step in a direction adds. -/
def wayL (g : Int) : List (List Int) := if g = 6 then [[1, 0], [0, 1], [-1, 1], [-1, 0], [0, -1], [1, -1]] else [[1, 0], [0, 1], [-1, 0], [0, -1]]
def impl_walker_do.f (a0_0 a0_1 a0_2 a1 a2 : Int) : Option (Int × Int × Int) :=
  if a2 = 70 then (if 0 ≤ a0_2 ∧ a0_2 < ((wayL a1).length : Int) then some (wrap64 (a0_0 + rd ((wayL a1).getD a0_2.toNat ([] : List Int)) 0), wrap64 (a0_1 + rd ((wayL a1).getD a0_2.toNat ([] : List Int)) 1), a0_2) else none)
  else if a2 = 76 then (if a1 = 0 then none else some (a0_0, a0_1, Int.tmod (wrap64 (a0_2 + 1)) a1))
  else if a2 = 82 then (if a1 = 0 then none else some (a0_0, a0_1, Int.tmod (wrap64 (wrap64 (a0_2 + a1) - 1)) a1))
  else some (a0_0, a0_1, a0_2)
set_option maxHeartbeats 4000000 in
set_option maxRecDepth 100000 in
theorem do_other4 (x y d g s : Int) (w : World) (h1 : s ≠ 70) (h2 : s ≠ 76) (h3 : s ≠ 82) (hg : g ≠ 6) :
    Calls Tryd.prog 37 #[.agg #[.int .i64 x, .int .i64 y, .int .i64 d], .int .i64 g, .int .u8 s] w fun e w' => e = .returned (.agg #[.int .i64 x, .int .i64 y, .int .i64 d]) ∧ Below w.heap.size w w' := by
  have hu := Tryd.underlying40
  go_enter Tryd.func37, Tryd.ntmps37
  go_wp2
  refine bodyPost_ret (v := .agg #[.int .i64 x, .int .i64 y, .int .i64 d]) (by simp [results, Tryd.results37, go_sem]) rfl ⟨rfl, by repeat (first | exact Below.refl _ _ | apply below_alloc | apply below_setCell)⟩
set_option maxHeartbeats 4000000 in
set_option maxRecDepth 100000 in
theorem do_L4 (x y d g : Int) (w : World) (hg : g ≠ 6) (h0 : g ≠ 0) :
    Calls Tryd.prog 37 #[.agg #[.int .i64 x, .int .i64 y, .int .i64 d], .int .i64 g, .int .u8 76] w fun e w' => e = .returned (.agg #[.int .i64 x, .int .i64 y, .int .i64 (Int.tmod (wrap64 (d + 1)) g)]) ∧ Below w.heap.size w w' := by
  have hu := Tryd.underlying40
  go_enter Tryd.func37, Tryd.ntmps37
  go_wp2
  refine bodyPost_ret (v := .agg #[.int .i64 x, .int .i64 y, .int .i64 (Int.tmod (wrap64 (d + 1)) g)]) (by simp [results, Tryd.results37, go_sem]) rfl ⟨rfl, by repeat (first | exact Below.refl _ _ | apply below_alloc | apply below_setCell)⟩
set_option maxHeartbeats 4000000 in
set_option maxRecDepth 100000 in
theorem do_R4 (x y d g : Int) (w : World) (hg : g ≠ 6) (h0 : g ≠ 0) :
    Calls Tryd.prog 37 #[.agg #[.int .i64 x, .int .i64 y, .int .i64 d], .int .i64 g, .int .u8 82] w fun e w' => e = .returned (.agg #[.int .i64 x, .int .i64 y, .int .i64 (Int.tmod (wrap64 (wrap64 (d + g) - 1)) g)]) ∧ Below w.heap.size w w' := by
  have hu := Tryd.underlying40
  go_enter Tryd.func37, Tryd.ntmps37
  go_wp2
  refine bodyPost_ret (v := .agg #[.int .i64 x, .int .i64 y, .int .i64 (Int.tmod (wrap64 (wrap64 (d + g) - 1)) g)]) (by simp [results, Tryd.results37, go_sem]) rfl ⟨rfl, by repeat (first | exact Below.refl _ _ | apply below_alloc | apply below_setCell)⟩
set_option maxHeartbeats 4000000 in
set_option maxRecDepth 100000 in
theorem do_F4_0 (x y g : Int) (w : World) (hg : g ≠ 6) :
    Calls Tryd.prog 37 #[.agg #[.int .i64 x, .int .i64 y, .int .i64 0], .int .i64 g, .int .u8 70] w fun e w' => e = .returned (.agg #[.int .i64 (wrap64 (x + 1)), .int .i64 (wrap64 (y + 0)), .int .i64 0]) ∧ Below w.heap.size w w' := by
  have hu := Tryd.underlying40
  obtain ⟨W1, hW1⟩ : ∃ W1, W1 = (((w.alloc (.cells #[.int .i64 x, .int .i64 y, .int .i64 0] 40)).alloc (.cells #[.int .i64 0, .int .i64 0, .int .i64 0] 40)).alloc (.cells #[.int .i64 1, .int .i64 0, .int .i64 0, .int .i64 1, .int .i64 (-1), .int .i64 0, .int .i64 0, .int .i64 (-1)] 82)).drew := ⟨_, rfl⟩
  have hb1 : Below w.heap.size w W1 := by rw [hW1]; repeat (first | exact Below.refl _ _ | apply below_alloc | apply Below.drew)
  have c0 : W1.cell? ⟨w.heap.size, 0, none⟩ = some (.int .i64 x) := by rw [hW1]; simp [go_sem]
  have c1 : W1.cell? ⟨w.heap.size, 1, none⟩ = some (.int .i64 y) := by rw [hW1]; simp [go_sem]
  have c2 : W1.cell? ⟨w.heap.size, 2, none⟩ = some (.int .i64 0) := by rw [hW1]; simp [go_sem]
  have c3 : W1.cell? ⟨w.heap.size + 2, 0, none⟩ = some (.int .i64 1) := by rw [hW1]; simp [go_sem]
  have c4 : W1.cell? ⟨w.heap.size + 2, 1, none⟩ = some (.int .i64 0) := by rw [hW1]; simp [go_sem]
  have f0 : ∀ a : Addr, w.heap.size ≤ a.block → W1.frozen? a = false := by
    intro a ha
    rw [hW1]
    show World.frozen? (((w.alloc (.cells #[.int .i64 x, .int .i64 y, .int .i64 0] 40)).alloc (.cells #[.int .i64 0, .int .i64 0, .int .i64 0] 40)).alloc (.cells #[.int .i64 1, .int .i64 0, .int .i64 0, .int .i64 1, .int .i64 (-1), .int .i64 0, .int .i64 0, .int .i64 (-1)] 82)) a = false
    rw [frozen?_alloc_cells, frozen?_alloc_cells, frozen?_alloc_cells]
    simp [World.frozen?, Array.getElem?_eq_none ha]
  have d0 : W1.cell? ⟨w.heap.size + 1, 0, none⟩ = some (.int .i64 0) := by rw [hW1]; simp [go_sem]
  have d1 : W1.cell? ⟨w.heap.size + 1, 1, none⟩ = some (.int .i64 0) := by rw [hW1]; simp [go_sem]
  have d2 : W1.cell? ⟨w.heap.size + 1, 2, none⟩ = some (.int .i64 0) := by rw [hW1]; simp [go_sem]
  have g0 := f0 ⟨w.heap.size, 0, none⟩ (Nat.le_refl _)
  obtain ⟨W2, hW2⟩ : ∃ W2, W2 = (W1.setCell ⟨w.heap.size, 0, none⟩ (.int .i64 (wrap64 (x + 1)))).drew := ⟨_, rfl⟩
  have hb2 : Below w.heap.size w W2 := by rw [hW2]; exact (hb1.setCell (Nat.le_refl _) _).drew
  have e0 : W2.cell? ⟨w.heap.size, 0, none⟩ = some (.int .i64 (wrap64 (x + 1))) := by rw [hW2]; simp [go_sem, c0]
  have e1 : W2.cell? ⟨w.heap.size, 1, none⟩ = some (.int .i64 y) := by rw [hW2]; simp [go_sem, c1]
  have e2 : W2.cell? ⟨w.heap.size, 2, none⟩ = some (.int .i64 0) := by rw [hW2]; simp [go_sem, c2]
  have e3 : W2.cell? ⟨w.heap.size + 2, 0, none⟩ = some (.int .i64 1) := by rw [hW2]; simp [go_sem, c3]
  have e4 : W2.cell? ⟨w.heap.size + 2, 1, none⟩ = some (.int .i64 0) := by rw [hW2]; simp [go_sem, c4]
  have i0 : W2.cell? ⟨w.heap.size + 1, 0, none⟩ = some (.int .i64 0) := by rw [hW2]; simp [go_sem, d0]
  have i1 : W2.cell? ⟨w.heap.size + 1, 1, none⟩ = some (.int .i64 0) := by rw [hW2]; simp [go_sem, d1]
  have i2 : W2.cell? ⟨w.heap.size + 1, 2, none⟩ = some (.int .i64 0) := by rw [hW2]; simp [go_sem, d2]
  have f2 : ∀ a : Addr, w.heap.size ≤ a.block → W2.frozen? a = false := by
    intro a ha
    rw [hW2]
    show World.frozen? (W1.setCell _ _) a = false
    rw [World.frozen?_setCell]
    exact f0 a ha
  have g1 := f2 ⟨w.heap.size, 1, none⟩ (Nat.le_refl _)
  have m0 := f2 ⟨w.heap.size + 1, 0, none⟩ (Nat.le_succ _)
  have m1 := f2 ⟨w.heap.size + 1, 1, none⟩ (Nat.le_succ _)
  have m2 := f2 ⟨w.heap.size + 1, 2, none⟩ (Nat.le_succ _)
  clear d0 d1 d2 f0 f2
  have H2 := Aside0.mk hW2
  clear hW2
  have H1 := Aside0.mk hW1
  clear hW1
  go_enter Tryd.func37, Tryd.ntmps37
  go_wp2
  refine wp_region_still_tail 10 (by kernel_rfl) (by kernel_rfl) ?_
  simp only [List.take_succ_cons, List.take_zero, List.drop_succ_cons, List.drop_zero]
  change wpStill _ _ ((((w.alloc (.cells #[.int .i64 x, .int .i64 y, .int .i64 0] 40)).alloc (.cells #[.int .i64 0, .int .i64 0, .int .i64 0] 40)).alloc (.cells #[.int .i64 1, .int .i64 0, .int .i64 0, .int .i64 1, .int .i64 (-1), .int .i64 0, .int .i64 0, .int .i64 (-1)] 82)).drew) _ _ _
  rw [← H1.out]
  iterate 10 still_step
  refine wpStill_nil ?_
  change wpList _ _ _ _ _ ((((w.alloc (.cells #[.int .i64 x, .int .i64 y, .int .i64 0] 40)).alloc (.cells #[.int .i64 0, .int .i64 0, .int .i64 0] 40)).alloc (.cells #[.int .i64 1, .int .i64 0, .int .i64 0, .int .i64 1, .int .i64 (-1), .int .i64 0, .int .i64 0, .int .i64 (-1)] 82)).drew)
  rw [← H1.out]
  go_wp2
  refine wp_region_still_tail 10 (by kernel_rfl) (by kernel_rfl) ?_
  simp only [List.take_succ_cons, List.take_zero, List.drop_succ_cons, List.drop_zero]
  change wpStill _ _ ((W1.setCell ⟨w.heap.size, 0, none⟩ (.int .i64 (wrap64 (x + 1)))).drew) _ _ _
  rw [← H2.out]
  iterate 10 still_step
  refine wpStill_nil ?_
  change wpList _ _ _ _ _ ((W1.setCell ⟨w.heap.size, 0, none⟩ (.int .i64 (wrap64 (x + 1)))).drew)
  rw [← H2.out]
  go_wp2
  refine bodyPost_ret (v := .agg #[.int .i64 (wrap64 (x + 1)), .int .i64 (wrap64 (y + 0)), .int .i64 0]) (by simp [results, Tryd.results37, go_sem, e0, e1, e2, i0, i1, i2]) rfl ⟨rfl, by repeat (first | exact hb2 | refine Below.setCell ?_ (by simp) _)⟩
set_option maxHeartbeats 4000000 in
set_option maxRecDepth 100000 in
theorem do_F4_1 (x y g : Int) (w : World) (hg : g ≠ 6) :
    Calls Tryd.prog 37 #[.agg #[.int .i64 x, .int .i64 y, .int .i64 1], .int .i64 g, .int .u8 70] w fun e w' => e = .returned (.agg #[.int .i64 (wrap64 (x + 0)), .int .i64 (wrap64 (y + 1)), .int .i64 1]) ∧ Below w.heap.size w w' := by
  have hu := Tryd.underlying40
  obtain ⟨W1, hW1⟩ : ∃ W1, W1 = (((w.alloc (.cells #[.int .i64 x, .int .i64 y, .int .i64 1] 40)).alloc (.cells #[.int .i64 0, .int .i64 0, .int .i64 0] 40)).alloc (.cells #[.int .i64 1, .int .i64 0, .int .i64 0, .int .i64 1, .int .i64 (-1), .int .i64 0, .int .i64 0, .int .i64 (-1)] 82)).drew := ⟨_, rfl⟩
  have hb1 : Below w.heap.size w W1 := by rw [hW1]; repeat (first | exact Below.refl _ _ | apply below_alloc | apply Below.drew)
  have c0 : W1.cell? ⟨w.heap.size, 0, none⟩ = some (.int .i64 x) := by rw [hW1]; simp [go_sem]
  have c1 : W1.cell? ⟨w.heap.size, 1, none⟩ = some (.int .i64 y) := by rw [hW1]; simp [go_sem]
  have c2 : W1.cell? ⟨w.heap.size, 2, none⟩ = some (.int .i64 1) := by rw [hW1]; simp [go_sem]
  have c3 : W1.cell? ⟨w.heap.size + 2, 2, none⟩ = some (.int .i64 0) := by rw [hW1]; simp [go_sem]
  have c4 : W1.cell? ⟨w.heap.size + 2, 3, none⟩ = some (.int .i64 1) := by rw [hW1]; simp [go_sem]
  have f0 : ∀ a : Addr, w.heap.size ≤ a.block → W1.frozen? a = false := by
    intro a ha
    rw [hW1]
    show World.frozen? (((w.alloc (.cells #[.int .i64 x, .int .i64 y, .int .i64 1] 40)).alloc (.cells #[.int .i64 0, .int .i64 0, .int .i64 0] 40)).alloc (.cells #[.int .i64 1, .int .i64 0, .int .i64 0, .int .i64 1, .int .i64 (-1), .int .i64 0, .int .i64 0, .int .i64 (-1)] 82)) a = false
    rw [frozen?_alloc_cells, frozen?_alloc_cells, frozen?_alloc_cells]
    simp [World.frozen?, Array.getElem?_eq_none ha]
  have d0 : W1.cell? ⟨w.heap.size + 1, 0, none⟩ = some (.int .i64 0) := by rw [hW1]; simp [go_sem]
  have d1 : W1.cell? ⟨w.heap.size + 1, 1, none⟩ = some (.int .i64 0) := by rw [hW1]; simp [go_sem]
  have d2 : W1.cell? ⟨w.heap.size + 1, 2, none⟩ = some (.int .i64 0) := by rw [hW1]; simp [go_sem]
  have g0 := f0 ⟨w.heap.size, 0, none⟩ (Nat.le_refl _)
  obtain ⟨W2, hW2⟩ : ∃ W2, W2 = (W1.setCell ⟨w.heap.size, 0, none⟩ (.int .i64 (wrap64 x))).drew := ⟨_, rfl⟩
  have hb2 : Below w.heap.size w W2 := by rw [hW2]; exact (hb1.setCell (Nat.le_refl _) _).drew
  have e0 : W2.cell? ⟨w.heap.size, 0, none⟩ = some (.int .i64 (wrap64 x)) := by rw [hW2]; simp [go_sem, c0]
  have e1 : W2.cell? ⟨w.heap.size, 1, none⟩ = some (.int .i64 y) := by rw [hW2]; simp [go_sem, c1]
  have e2 : W2.cell? ⟨w.heap.size, 2, none⟩ = some (.int .i64 1) := by rw [hW2]; simp [go_sem, c2]
  have e3 : W2.cell? ⟨w.heap.size + 2, 2, none⟩ = some (.int .i64 0) := by rw [hW2]; simp [go_sem, c3]
  have e4 : W2.cell? ⟨w.heap.size + 2, 3, none⟩ = some (.int .i64 1) := by rw [hW2]; simp [go_sem, c4]
  have i0 : W2.cell? ⟨w.heap.size + 1, 0, none⟩ = some (.int .i64 0) := by rw [hW2]; simp [go_sem, d0]
  have i1 : W2.cell? ⟨w.heap.size + 1, 1, none⟩ = some (.int .i64 0) := by rw [hW2]; simp [go_sem, d1]
  have i2 : W2.cell? ⟨w.heap.size + 1, 2, none⟩ = some (.int .i64 0) := by rw [hW2]; simp [go_sem, d2]
  have f2 : ∀ a : Addr, w.heap.size ≤ a.block → W2.frozen? a = false := by
    intro a ha
    rw [hW2]
    show World.frozen? (W1.setCell _ _) a = false
    rw [World.frozen?_setCell]
    exact f0 a ha
  have g1 := f2 ⟨w.heap.size, 1, none⟩ (Nat.le_refl _)
  have m0 := f2 ⟨w.heap.size + 1, 0, none⟩ (Nat.le_succ _)
  have m1 := f2 ⟨w.heap.size + 1, 1, none⟩ (Nat.le_succ _)
  have m2 := f2 ⟨w.heap.size + 1, 2, none⟩ (Nat.le_succ _)
  clear d0 d1 d2 f0 f2
  have H2 := Aside0.mk hW2
  clear hW2
  have H1 := Aside0.mk hW1
  clear hW1
  go_enter Tryd.func37, Tryd.ntmps37
  go_wp2
  refine wp_region_still_tail 10 (by kernel_rfl) (by kernel_rfl) ?_
  simp only [List.take_succ_cons, List.take_zero, List.drop_succ_cons, List.drop_zero]
  change wpStill _ _ ((((w.alloc (.cells #[.int .i64 x, .int .i64 y, .int .i64 1] 40)).alloc (.cells #[.int .i64 0, .int .i64 0, .int .i64 0] 40)).alloc (.cells #[.int .i64 1, .int .i64 0, .int .i64 0, .int .i64 1, .int .i64 (-1), .int .i64 0, .int .i64 0, .int .i64 (-1)] 82)).drew) _ _ _
  rw [← H1.out]
  iterate 10 still_step
  refine wpStill_nil ?_
  change wpList _ _ _ _ _ ((((w.alloc (.cells #[.int .i64 x, .int .i64 y, .int .i64 1] 40)).alloc (.cells #[.int .i64 0, .int .i64 0, .int .i64 0] 40)).alloc (.cells #[.int .i64 1, .int .i64 0, .int .i64 0, .int .i64 1, .int .i64 (-1), .int .i64 0, .int .i64 0, .int .i64 (-1)] 82)).drew)
  rw [← H1.out]
  go_wp2
  refine wp_region_still_tail 10 (by kernel_rfl) (by kernel_rfl) ?_
  simp only [List.take_succ_cons, List.take_zero, List.drop_succ_cons, List.drop_zero]
  change wpStill _ _ ((W1.setCell ⟨w.heap.size, 0, none⟩ (.int .i64 (wrap64 x))).drew) _ _ _
  rw [← H2.out]
  iterate 10 still_step
  refine wpStill_nil ?_
  change wpList _ _ _ _ _ ((W1.setCell ⟨w.heap.size, 0, none⟩ (.int .i64 (wrap64 x))).drew)
  rw [← H2.out]
  go_wp2
  refine bodyPost_ret (v := .agg #[.int .i64 (wrap64 (x + 0)), .int .i64 (wrap64 (y + 1)), .int .i64 1]) (by simp [results, Tryd.results37, go_sem, e0, e1, e2, i0, i1, i2]) rfl ⟨rfl, by repeat (first | exact hb2 | refine Below.setCell ?_ (by simp) _)⟩
set_option maxHeartbeats 4000000 in
set_option maxRecDepth 100000 in
theorem do_F4_2 (x y g : Int) (w : World) (hg : g ≠ 6) :
    Calls Tryd.prog 37 #[.agg #[.int .i64 x, .int .i64 y, .int .i64 2], .int .i64 g, .int .u8 70] w fun e w' => e = .returned (.agg #[.int .i64 (wrap64 (x + (-1))), .int .i64 (wrap64 (y + 0)), .int .i64 2]) ∧ Below w.heap.size w w' := by
  have hu := Tryd.underlying40
  obtain ⟨W1, hW1⟩ : ∃ W1, W1 = (((w.alloc (.cells #[.int .i64 x, .int .i64 y, .int .i64 2] 40)).alloc (.cells #[.int .i64 0, .int .i64 0, .int .i64 0] 40)).alloc (.cells #[.int .i64 1, .int .i64 0, .int .i64 0, .int .i64 1, .int .i64 (-1), .int .i64 0, .int .i64 0, .int .i64 (-1)] 82)).drew := ⟨_, rfl⟩
  have hb1 : Below w.heap.size w W1 := by rw [hW1]; repeat (first | exact Below.refl _ _ | apply below_alloc | apply Below.drew)
  have c0 : W1.cell? ⟨w.heap.size, 0, none⟩ = some (.int .i64 x) := by rw [hW1]; simp [go_sem]
  have c1 : W1.cell? ⟨w.heap.size, 1, none⟩ = some (.int .i64 y) := by rw [hW1]; simp [go_sem]
  have c2 : W1.cell? ⟨w.heap.size, 2, none⟩ = some (.int .i64 2) := by rw [hW1]; simp [go_sem]
  have c3 : W1.cell? ⟨w.heap.size + 2, 4, none⟩ = some (.int .i64 (-1)) := by rw [hW1]; simp [go_sem]
  have c4 : W1.cell? ⟨w.heap.size + 2, 5, none⟩ = some (.int .i64 0) := by rw [hW1]; simp [go_sem]
  have f0 : ∀ a : Addr, w.heap.size ≤ a.block → W1.frozen? a = false := by
    intro a ha
    rw [hW1]
    show World.frozen? (((w.alloc (.cells #[.int .i64 x, .int .i64 y, .int .i64 2] 40)).alloc (.cells #[.int .i64 0, .int .i64 0, .int .i64 0] 40)).alloc (.cells #[.int .i64 1, .int .i64 0, .int .i64 0, .int .i64 1, .int .i64 (-1), .int .i64 0, .int .i64 0, .int .i64 (-1)] 82)) a = false
    rw [frozen?_alloc_cells, frozen?_alloc_cells, frozen?_alloc_cells]
    simp [World.frozen?, Array.getElem?_eq_none ha]
  have d0 : W1.cell? ⟨w.heap.size + 1, 0, none⟩ = some (.int .i64 0) := by rw [hW1]; simp [go_sem]
  have d1 : W1.cell? ⟨w.heap.size + 1, 1, none⟩ = some (.int .i64 0) := by rw [hW1]; simp [go_sem]
  have d2 : W1.cell? ⟨w.heap.size + 1, 2, none⟩ = some (.int .i64 0) := by rw [hW1]; simp [go_sem]
  have g0 := f0 ⟨w.heap.size, 0, none⟩ (Nat.le_refl _)
  obtain ⟨W2, hW2⟩ : ∃ W2, W2 = (W1.setCell ⟨w.heap.size, 0, none⟩ (.int .i64 (wrap64 (x + (-1))))).drew := ⟨_, rfl⟩
  have hb2 : Below w.heap.size w W2 := by rw [hW2]; exact (hb1.setCell (Nat.le_refl _) _).drew
  have e0 : W2.cell? ⟨w.heap.size, 0, none⟩ = some (.int .i64 (wrap64 (x + (-1)))) := by rw [hW2]; simp [go_sem, c0]
  have e1 : W2.cell? ⟨w.heap.size, 1, none⟩ = some (.int .i64 y) := by rw [hW2]; simp [go_sem, c1]
  have e2 : W2.cell? ⟨w.heap.size, 2, none⟩ = some (.int .i64 2) := by rw [hW2]; simp [go_sem, c2]
  have e3 : W2.cell? ⟨w.heap.size + 2, 4, none⟩ = some (.int .i64 (-1)) := by rw [hW2]; simp [go_sem, c3]
  have e4 : W2.cell? ⟨w.heap.size + 2, 5, none⟩ = some (.int .i64 0) := by rw [hW2]; simp [go_sem, c4]
  have i0 : W2.cell? ⟨w.heap.size + 1, 0, none⟩ = some (.int .i64 0) := by rw [hW2]; simp [go_sem, d0]
  have i1 : W2.cell? ⟨w.heap.size + 1, 1, none⟩ = some (.int .i64 0) := by rw [hW2]; simp [go_sem, d1]
  have i2 : W2.cell? ⟨w.heap.size + 1, 2, none⟩ = some (.int .i64 0) := by rw [hW2]; simp [go_sem, d2]
  have f2 : ∀ a : Addr, w.heap.size ≤ a.block → W2.frozen? a = false := by
    intro a ha
    rw [hW2]
    show World.frozen? (W1.setCell _ _) a = false
    rw [World.frozen?_setCell]
    exact f0 a ha
  have g1 := f2 ⟨w.heap.size, 1, none⟩ (Nat.le_refl _)
  have m0 := f2 ⟨w.heap.size + 1, 0, none⟩ (Nat.le_succ _)
  have m1 := f2 ⟨w.heap.size + 1, 1, none⟩ (Nat.le_succ _)
  have m2 := f2 ⟨w.heap.size + 1, 2, none⟩ (Nat.le_succ _)
  clear d0 d1 d2 f0 f2
  have H2 := Aside0.mk hW2
  clear hW2
  have H1 := Aside0.mk hW1
  clear hW1
  go_enter Tryd.func37, Tryd.ntmps37
  go_wp2
  refine wp_region_still_tail 10 (by kernel_rfl) (by kernel_rfl) ?_
  simp only [List.take_succ_cons, List.take_zero, List.drop_succ_cons, List.drop_zero]
  change wpStill _ _ ((((w.alloc (.cells #[.int .i64 x, .int .i64 y, .int .i64 2] 40)).alloc (.cells #[.int .i64 0, .int .i64 0, .int .i64 0] 40)).alloc (.cells #[.int .i64 1, .int .i64 0, .int .i64 0, .int .i64 1, .int .i64 (-1), .int .i64 0, .int .i64 0, .int .i64 (-1)] 82)).drew) _ _ _
  rw [← H1.out]
  iterate 10 still_step
  refine wpStill_nil ?_
  change wpList _ _ _ _ _ ((((w.alloc (.cells #[.int .i64 x, .int .i64 y, .int .i64 2] 40)).alloc (.cells #[.int .i64 0, .int .i64 0, .int .i64 0] 40)).alloc (.cells #[.int .i64 1, .int .i64 0, .int .i64 0, .int .i64 1, .int .i64 (-1), .int .i64 0, .int .i64 0, .int .i64 (-1)] 82)).drew)
  rw [← H1.out]
  go_wp2
  refine wp_region_still_tail 10 (by kernel_rfl) (by kernel_rfl) ?_
  simp only [List.take_succ_cons, List.take_zero, List.drop_succ_cons, List.drop_zero]
  change wpStill _ _ ((W1.setCell ⟨w.heap.size, 0, none⟩ (.int .i64 (wrap64 (x + (-1))))).drew) _ _ _
  rw [← H2.out]
  iterate 10 still_step
  refine wpStill_nil ?_
  change wpList _ _ _ _ _ ((W1.setCell ⟨w.heap.size, 0, none⟩ (.int .i64 (wrap64 (x + (-1))))).drew)
  rw [← H2.out]
  go_wp2
  refine bodyPost_ret (v := .agg #[.int .i64 (wrap64 (x + (-1))), .int .i64 (wrap64 (y + 0)), .int .i64 2]) (by simp [results, Tryd.results37, go_sem, e0, e1, e2, i0, i1, i2]) rfl ⟨rfl, by repeat (first | exact hb2 | refine Below.setCell ?_ (by simp) _)⟩
set_option maxHeartbeats 4000000 in
set_option maxRecDepth 100000 in
theorem do_F4_3 (x y g : Int) (w : World) (hg : g ≠ 6) :
    Calls Tryd.prog 37 #[.agg #[.int .i64 x, .int .i64 y, .int .i64 3], .int .i64 g, .int .u8 70] w fun e w' => e = .returned (.agg #[.int .i64 (wrap64 (x + 0)), .int .i64 (wrap64 (y + (-1))), .int .i64 3]) ∧ Below w.heap.size w w' := by
  have hu := Tryd.underlying40
  obtain ⟨W1, hW1⟩ : ∃ W1, W1 = (((w.alloc (.cells #[.int .i64 x, .int .i64 y, .int .i64 3] 40)).alloc (.cells #[.int .i64 0, .int .i64 0, .int .i64 0] 40)).alloc (.cells #[.int .i64 1, .int .i64 0, .int .i64 0, .int .i64 1, .int .i64 (-1), .int .i64 0, .int .i64 0, .int .i64 (-1)] 82)).drew := ⟨_, rfl⟩
  have hb1 : Below w.heap.size w W1 := by rw [hW1]; repeat (first | exact Below.refl _ _ | apply below_alloc | apply Below.drew)
  have c0 : W1.cell? ⟨w.heap.size, 0, none⟩ = some (.int .i64 x) := by rw [hW1]; simp [go_sem]
  have c1 : W1.cell? ⟨w.heap.size, 1, none⟩ = some (.int .i64 y) := by rw [hW1]; simp [go_sem]
  have c2 : W1.cell? ⟨w.heap.size, 2, none⟩ = some (.int .i64 3) := by rw [hW1]; simp [go_sem]
  have c3 : W1.cell? ⟨w.heap.size + 2, 6, none⟩ = some (.int .i64 0) := by rw [hW1]; simp [go_sem]
  have c4 : W1.cell? ⟨w.heap.size + 2, 7, none⟩ = some (.int .i64 (-1)) := by rw [hW1]; simp [go_sem]
  have f0 : ∀ a : Addr, w.heap.size ≤ a.block → W1.frozen? a = false := by
    intro a ha
    rw [hW1]
    show World.frozen? (((w.alloc (.cells #[.int .i64 x, .int .i64 y, .int .i64 3] 40)).alloc (.cells #[.int .i64 0, .int .i64 0, .int .i64 0] 40)).alloc (.cells #[.int .i64 1, .int .i64 0, .int .i64 0, .int .i64 1, .int .i64 (-1), .int .i64 0, .int .i64 0, .int .i64 (-1)] 82)) a = false
    rw [frozen?_alloc_cells, frozen?_alloc_cells, frozen?_alloc_cells]
    simp [World.frozen?, Array.getElem?_eq_none ha]
  have d0 : W1.cell? ⟨w.heap.size + 1, 0, none⟩ = some (.int .i64 0) := by rw [hW1]; simp [go_sem]
  have d1 : W1.cell? ⟨w.heap.size + 1, 1, none⟩ = some (.int .i64 0) := by rw [hW1]; simp [go_sem]
  have d2 : W1.cell? ⟨w.heap.size + 1, 2, none⟩ = some (.int .i64 0) := by rw [hW1]; simp [go_sem]
  have g0 := f0 ⟨w.heap.size, 0, none⟩ (Nat.le_refl _)
  obtain ⟨W2, hW2⟩ : ∃ W2, W2 = (W1.setCell ⟨w.heap.size, 0, none⟩ (.int .i64 (wrap64 x))).drew := ⟨_, rfl⟩
  have hb2 : Below w.heap.size w W2 := by rw [hW2]; exact (hb1.setCell (Nat.le_refl _) _).drew
  have e0 : W2.cell? ⟨w.heap.size, 0, none⟩ = some (.int .i64 (wrap64 x)) := by rw [hW2]; simp [go_sem, c0]
  have e1 : W2.cell? ⟨w.heap.size, 1, none⟩ = some (.int .i64 y) := by rw [hW2]; simp [go_sem, c1]
  have e2 : W2.cell? ⟨w.heap.size, 2, none⟩ = some (.int .i64 3) := by rw [hW2]; simp [go_sem, c2]
  have e3 : W2.cell? ⟨w.heap.size + 2, 6, none⟩ = some (.int .i64 0) := by rw [hW2]; simp [go_sem, c3]
  have e4 : W2.cell? ⟨w.heap.size + 2, 7, none⟩ = some (.int .i64 (-1)) := by rw [hW2]; simp [go_sem, c4]
  have i0 : W2.cell? ⟨w.heap.size + 1, 0, none⟩ = some (.int .i64 0) := by rw [hW2]; simp [go_sem, d0]
  have i1 : W2.cell? ⟨w.heap.size + 1, 1, none⟩ = some (.int .i64 0) := by rw [hW2]; simp [go_sem, d1]
  have i2 : W2.cell? ⟨w.heap.size + 1, 2, none⟩ = some (.int .i64 0) := by rw [hW2]; simp [go_sem, d2]
  have f2 : ∀ a : Addr, w.heap.size ≤ a.block → W2.frozen? a = false := by
    intro a ha
    rw [hW2]
    show World.frozen? (W1.setCell _ _) a = false
    rw [World.frozen?_setCell]
    exact f0 a ha
  have g1 := f2 ⟨w.heap.size, 1, none⟩ (Nat.le_refl _)
  have m0 := f2 ⟨w.heap.size + 1, 0, none⟩ (Nat.le_succ _)
  have m1 := f2 ⟨w.heap.size + 1, 1, none⟩ (Nat.le_succ _)
  have m2 := f2 ⟨w.heap.size + 1, 2, none⟩ (Nat.le_succ _)
  clear d0 d1 d2 f0 f2
  have H2 := Aside0.mk hW2
  clear hW2
  have H1 := Aside0.mk hW1
  clear hW1
  go_enter Tryd.func37, Tryd.ntmps37
  go_wp2
  refine wp_region_still_tail 10 (by kernel_rfl) (by kernel_rfl) ?_
  simp only [List.take_succ_cons, List.take_zero, List.drop_succ_cons, List.drop_zero]
  change wpStill _ _ ((((w.alloc (.cells #[.int .i64 x, .int .i64 y, .int .i64 3] 40)).alloc (.cells #[.int .i64 0, .int .i64 0, .int .i64 0] 40)).alloc (.cells #[.int .i64 1, .int .i64 0, .int .i64 0, .int .i64 1, .int .i64 (-1), .int .i64 0, .int .i64 0, .int .i64 (-1)] 82)).drew) _ _ _
  rw [← H1.out]
  iterate 10 still_step
  refine wpStill_nil ?_
  change wpList _ _ _ _ _ ((((w.alloc (.cells #[.int .i64 x, .int .i64 y, .int .i64 3] 40)).alloc (.cells #[.int .i64 0, .int .i64 0, .int .i64 0] 40)).alloc (.cells #[.int .i64 1, .int .i64 0, .int .i64 0, .int .i64 1, .int .i64 (-1), .int .i64 0, .int .i64 0, .int .i64 (-1)] 82)).drew)
  rw [← H1.out]
  go_wp2
  refine wp_region_still_tail 10 (by kernel_rfl) (by kernel_rfl) ?_
  simp only [List.take_succ_cons, List.take_zero, List.drop_succ_cons, List.drop_zero]
  change wpStill _ _ ((W1.setCell ⟨w.heap.size, 0, none⟩ (.int .i64 (wrap64 x))).drew) _ _ _
  rw [← H2.out]
  iterate 10 still_step
  refine wpStill_nil ?_
  change wpList _ _ _ _ _ ((W1.setCell ⟨w.heap.size, 0, none⟩ (.int .i64 (wrap64 x))).drew)
  rw [← H2.out]
  go_wp2
  refine bodyPost_ret (v := .agg #[.int .i64 (wrap64 (x + 0)), .int .i64 (wrap64 (y + (-1))), .int .i64 3]) (by simp [results, Tryd.results37, go_sem, e0, e1, e2, i0, i1, i2]) rfl ⟨rfl, by repeat (first | exact hb2 | refine Below.setCell ?_ (by simp) _)⟩
set_option maxHeartbeats 4000000 in
set_option maxRecDepth 100000 in
theorem do_other6 (x y d s : Int) (w : World) (h1 : s ≠ 70) (h2 : s ≠ 76) (h3 : s ≠ 82)  :
    Calls Tryd.prog 37 #[.agg #[.int .i64 x, .int .i64 y, .int .i64 d], .int .i64 6, .int .u8 s] w fun e w' => e = .returned (.agg #[.int .i64 x, .int .i64 y, .int .i64 d]) ∧ Below w.heap.size w w' := by
  have hu := Tryd.underlying40
  go_enter Tryd.func37, Tryd.ntmps37
  go_wp2
  refine bodyPost_ret (v := .agg #[.int .i64 x, .int .i64 y, .int .i64 d]) (by simp [results, Tryd.results37, go_sem]) rfl ⟨rfl, by repeat (first | exact Below.refl _ _ | apply below_alloc | apply below_setCell)⟩
set_option maxHeartbeats 4000000 in
set_option maxRecDepth 100000 in
theorem do_L6 (x y d  : Int) (w : World)  :
    Calls Tryd.prog 37 #[.agg #[.int .i64 x, .int .i64 y, .int .i64 d], .int .i64 6, .int .u8 76] w fun e w' => e = .returned (.agg #[.int .i64 x, .int .i64 y, .int .i64 (Int.tmod (wrap64 (d + 1)) 6)]) ∧ Below w.heap.size w w' := by
  have hu := Tryd.underlying40
  go_enter Tryd.func37, Tryd.ntmps37
  go_wp2
  refine bodyPost_ret (v := .agg #[.int .i64 x, .int .i64 y, .int .i64 (Int.tmod (wrap64 (d + 1)) 6)]) (by simp [results, Tryd.results37, go_sem]) rfl ⟨rfl, by repeat (first | exact Below.refl _ _ | apply below_alloc | apply below_setCell)⟩
set_option maxHeartbeats 4000000 in
set_option maxRecDepth 100000 in
theorem do_R6 (x y d  : Int) (w : World)  :
    Calls Tryd.prog 37 #[.agg #[.int .i64 x, .int .i64 y, .int .i64 d], .int .i64 6, .int .u8 82] w fun e w' => e = .returned (.agg #[.int .i64 x, .int .i64 y, .int .i64 (Int.tmod (wrap64 (wrap64 (d + 6) - 1)) 6)]) ∧ Below w.heap.size w w' := by
  have hu := Tryd.underlying40
  go_enter Tryd.func37, Tryd.ntmps37
  go_wp2
  refine bodyPost_ret (v := .agg #[.int .i64 x, .int .i64 y, .int .i64 (Int.tmod (wrap64 (wrap64 (d + 6) - 1)) 6)]) (by simp [results, Tryd.results37, go_sem]) rfl ⟨rfl, by repeat (first | exact Below.refl _ _ | apply below_alloc | apply below_setCell)⟩
set_option maxHeartbeats 4000000 in
set_option maxRecDepth 100000 in
theorem do_F6_0 (x y  : Int) (w : World)  :
    Calls Tryd.prog 37 #[.agg #[.int .i64 x, .int .i64 y, .int .i64 0], .int .i64 6, .int .u8 70] w fun e w' => e = .returned (.agg #[.int .i64 (wrap64 (x + 1)), .int .i64 (wrap64 (y + 0)), .int .i64 0]) ∧ Below w.heap.size w w' := by
  have hu := Tryd.underlying40
  obtain ⟨W1, hW1⟩ : ∃ W1, W1 = (((((w.alloc (.cells #[.int .i64 x, .int .i64 y, .int .i64 0] 40)).alloc (.cells #[.int .i64 0, .int .i64 0, .int .i64 0] 40)).alloc (.cells #[.int .i64 1, .int .i64 0, .int .i64 0, .int .i64 1, .int .i64 (-1), .int .i64 0, .int .i64 0, .int .i64 (-1)] 82))).alloc (.cells #[.int .i64 1, .int .i64 0, .int .i64 0, .int .i64 1, .int .i64 (-1), .int .i64 1, .int .i64 (-1), .int .i64 0, .int .i64 0, .int .i64 (-1), .int .i64 1, .int .i64 (-1)] 82)).drew := ⟨_, rfl⟩
  have hb1 : Below w.heap.size w W1 := by rw [hW1]; repeat (first | exact Below.refl _ _ | apply below_alloc | apply Below.drew)
  have c0 : W1.cell? ⟨w.heap.size, 0, none⟩ = some (.int .i64 x) := by rw [hW1]; simp [go_sem]
  have c1 : W1.cell? ⟨w.heap.size, 1, none⟩ = some (.int .i64 y) := by rw [hW1]; simp [go_sem]
  have c2 : W1.cell? ⟨w.heap.size, 2, none⟩ = some (.int .i64 0) := by rw [hW1]; simp [go_sem]
  have c3 : W1.cell? ⟨w.heap.size + 3, 0, none⟩ = some (.int .i64 1) := by rw [hW1]; simp [go_sem]
  have c4 : W1.cell? ⟨w.heap.size + 3, 1, none⟩ = some (.int .i64 0) := by rw [hW1]; simp [go_sem]
  have f0 : ∀ a : Addr, w.heap.size ≤ a.block → W1.frozen? a = false := by
    intro a ha
    rw [hW1]
    show World.frozen? (((((w.alloc (.cells #[.int .i64 x, .int .i64 y, .int .i64 0] 40)).alloc (.cells #[.int .i64 0, .int .i64 0, .int .i64 0] 40)).alloc (.cells #[.int .i64 1, .int .i64 0, .int .i64 0, .int .i64 1, .int .i64 (-1), .int .i64 0, .int .i64 0, .int .i64 (-1)] 82))).alloc (.cells #[.int .i64 1, .int .i64 0, .int .i64 0, .int .i64 1, .int .i64 (-1), .int .i64 1, .int .i64 (-1), .int .i64 0, .int .i64 0, .int .i64 (-1), .int .i64 1, .int .i64 (-1)] 82)) a = false
    rw [frozen?_alloc_cells, frozen?_alloc_cells, frozen?_alloc_cells, frozen?_alloc_cells]
    simp [World.frozen?, Array.getElem?_eq_none ha]
  have d0 : W1.cell? ⟨w.heap.size + 1, 0, none⟩ = some (.int .i64 0) := by rw [hW1]; simp [go_sem]
  have d1 : W1.cell? ⟨w.heap.size + 1, 1, none⟩ = some (.int .i64 0) := by rw [hW1]; simp [go_sem]
  have d2 : W1.cell? ⟨w.heap.size + 1, 2, none⟩ = some (.int .i64 0) := by rw [hW1]; simp [go_sem]
  have g0 := f0 ⟨w.heap.size, 0, none⟩ (Nat.le_refl _)
  obtain ⟨W2, hW2⟩ : ∃ W2, W2 = (W1.setCell ⟨w.heap.size, 0, none⟩ (.int .i64 (wrap64 (x + 1)))).drew := ⟨_, rfl⟩
  have hb2 : Below w.heap.size w W2 := by rw [hW2]; exact (hb1.setCell (Nat.le_refl _) _).drew
  have e0 : W2.cell? ⟨w.heap.size, 0, none⟩ = some (.int .i64 (wrap64 (x + 1))) := by rw [hW2]; simp [go_sem, c0]
  have e1 : W2.cell? ⟨w.heap.size, 1, none⟩ = some (.int .i64 y) := by rw [hW2]; simp [go_sem, c1]
  have e2 : W2.cell? ⟨w.heap.size, 2, none⟩ = some (.int .i64 0) := by rw [hW2]; simp [go_sem, c2]
  have e3 : W2.cell? ⟨w.heap.size + 3, 0, none⟩ = some (.int .i64 1) := by rw [hW2]; simp [go_sem, c3]
  have e4 : W2.cell? ⟨w.heap.size + 3, 1, none⟩ = some (.int .i64 0) := by rw [hW2]; simp [go_sem, c4]
  have i0 : W2.cell? ⟨w.heap.size + 1, 0, none⟩ = some (.int .i64 0) := by rw [hW2]; simp [go_sem, d0]
  have i1 : W2.cell? ⟨w.heap.size + 1, 1, none⟩ = some (.int .i64 0) := by rw [hW2]; simp [go_sem, d1]
  have i2 : W2.cell? ⟨w.heap.size + 1, 2, none⟩ = some (.int .i64 0) := by rw [hW2]; simp [go_sem, d2]
  have f2 : ∀ a : Addr, w.heap.size ≤ a.block → W2.frozen? a = false := by
    intro a ha
    rw [hW2]
    show World.frozen? (W1.setCell _ _) a = false
    rw [World.frozen?_setCell]
    exact f0 a ha
  have g1 := f2 ⟨w.heap.size, 1, none⟩ (Nat.le_refl _)
  have m0 := f2 ⟨w.heap.size + 1, 0, none⟩ (Nat.le_succ _)
  have m1 := f2 ⟨w.heap.size + 1, 1, none⟩ (Nat.le_succ _)
  have m2 := f2 ⟨w.heap.size + 1, 2, none⟩ (Nat.le_succ _)
  clear d0 d1 d2 f0 f2
  have H2 := Aside0.mk hW2
  clear hW2
  have H1 := Aside0.mk hW1
  clear hW1
  go_enter Tryd.func37, Tryd.ntmps37
  go_wp2
  refine wp_region_still_tail 10 (by kernel_rfl) (by kernel_rfl) ?_
  simp only [List.take_succ_cons, List.take_zero, List.drop_succ_cons, List.drop_zero]
  change wpStill _ _ ((((((w.alloc (.cells #[.int .i64 x, .int .i64 y, .int .i64 0] 40)).alloc (.cells #[.int .i64 0, .int .i64 0, .int .i64 0] 40)).alloc (.cells #[.int .i64 1, .int .i64 0, .int .i64 0, .int .i64 1, .int .i64 (-1), .int .i64 0, .int .i64 0, .int .i64 (-1)] 82))).alloc (.cells #[.int .i64 1, .int .i64 0, .int .i64 0, .int .i64 1, .int .i64 (-1), .int .i64 1, .int .i64 (-1), .int .i64 0, .int .i64 0, .int .i64 (-1), .int .i64 1, .int .i64 (-1)] 82)).drew) _ _ _
  rw [← H1.out]
  iterate 10 still_step
  refine wpStill_nil ?_
  change wpList _ _ _ _ _ ((((((w.alloc (.cells #[.int .i64 x, .int .i64 y, .int .i64 0] 40)).alloc (.cells #[.int .i64 0, .int .i64 0, .int .i64 0] 40)).alloc (.cells #[.int .i64 1, .int .i64 0, .int .i64 0, .int .i64 1, .int .i64 (-1), .int .i64 0, .int .i64 0, .int .i64 (-1)] 82))).alloc (.cells #[.int .i64 1, .int .i64 0, .int .i64 0, .int .i64 1, .int .i64 (-1), .int .i64 1, .int .i64 (-1), .int .i64 0, .int .i64 0, .int .i64 (-1), .int .i64 1, .int .i64 (-1)] 82)).drew)
  rw [← H1.out]
  go_wp2
  refine wp_region_still_tail 10 (by kernel_rfl) (by kernel_rfl) ?_
  simp only [List.take_succ_cons, List.take_zero, List.drop_succ_cons, List.drop_zero]
  change wpStill _ _ ((W1.setCell ⟨w.heap.size, 0, none⟩ (.int .i64 (wrap64 (x + 1)))).drew) _ _ _
  rw [← H2.out]
  iterate 10 still_step
  refine wpStill_nil ?_
  change wpList _ _ _ _ _ ((W1.setCell ⟨w.heap.size, 0, none⟩ (.int .i64 (wrap64 (x + 1)))).drew)
  rw [← H2.out]
  go_wp2
  refine bodyPost_ret (v := .agg #[.int .i64 (wrap64 (x + 1)), .int .i64 (wrap64 (y + 0)), .int .i64 0]) (by simp [results, Tryd.results37, go_sem, e0, e1, e2, i0, i1, i2]) rfl ⟨rfl, by repeat (first | exact hb2 | refine Below.setCell ?_ (by simp) _)⟩
set_option maxHeartbeats 4000000 in
set_option maxRecDepth 100000 in
theorem do_F6_1 (x y  : Int) (w : World)  :
    Calls Tryd.prog 37 #[.agg #[.int .i64 x, .int .i64 y, .int .i64 1], .int .i64 6, .int .u8 70] w fun e w' => e = .returned (.agg #[.int .i64 (wrap64 (x + 0)), .int .i64 (wrap64 (y + 1)), .int .i64 1]) ∧ Below w.heap.size w w' := by
  have hu := Tryd.underlying40
  obtain ⟨W1, hW1⟩ : ∃ W1, W1 = (((((w.alloc (.cells #[.int .i64 x, .int .i64 y, .int .i64 1] 40)).alloc (.cells #[.int .i64 0, .int .i64 0, .int .i64 0] 40)).alloc (.cells #[.int .i64 1, .int .i64 0, .int .i64 0, .int .i64 1, .int .i64 (-1), .int .i64 0, .int .i64 0, .int .i64 (-1)] 82))).alloc (.cells #[.int .i64 1, .int .i64 0, .int .i64 0, .int .i64 1, .int .i64 (-1), .int .i64 1, .int .i64 (-1), .int .i64 0, .int .i64 0, .int .i64 (-1), .int .i64 1, .int .i64 (-1)] 82)).drew := ⟨_, rfl⟩
  have hb1 : Below w.heap.size w W1 := by rw [hW1]; repeat (first | exact Below.refl _ _ | apply below_alloc | apply Below.drew)
  have c0 : W1.cell? ⟨w.heap.size, 0, none⟩ = some (.int .i64 x) := by rw [hW1]; simp [go_sem]
  have c1 : W1.cell? ⟨w.heap.size, 1, none⟩ = some (.int .i64 y) := by rw [hW1]; simp [go_sem]
  have c2 : W1.cell? ⟨w.heap.size, 2, none⟩ = some (.int .i64 1) := by rw [hW1]; simp [go_sem]
  have c3 : W1.cell? ⟨w.heap.size + 3, 2, none⟩ = some (.int .i64 0) := by rw [hW1]; simp [go_sem]
  have c4 : W1.cell? ⟨w.heap.size + 3, 3, none⟩ = some (.int .i64 1) := by rw [hW1]; simp [go_sem]
  have f0 : ∀ a : Addr, w.heap.size ≤ a.block → W1.frozen? a = false := by
    intro a ha
    rw [hW1]
    show World.frozen? (((((w.alloc (.cells #[.int .i64 x, .int .i64 y, .int .i64 1] 40)).alloc (.cells #[.int .i64 0, .int .i64 0, .int .i64 0] 40)).alloc (.cells #[.int .i64 1, .int .i64 0, .int .i64 0, .int .i64 1, .int .i64 (-1), .int .i64 0, .int .i64 0, .int .i64 (-1)] 82))).alloc (.cells #[.int .i64 1, .int .i64 0, .int .i64 0, .int .i64 1, .int .i64 (-1), .int .i64 1, .int .i64 (-1), .int .i64 0, .int .i64 0, .int .i64 (-1), .int .i64 1, .int .i64 (-1)] 82)) a = false
    rw [frozen?_alloc_cells, frozen?_alloc_cells, frozen?_alloc_cells, frozen?_alloc_cells]
    simp [World.frozen?, Array.getElem?_eq_none ha]
  have d0 : W1.cell? ⟨w.heap.size + 1, 0, none⟩ = some (.int .i64 0) := by rw [hW1]; simp [go_sem]
  have d1 : W1.cell? ⟨w.heap.size + 1, 1, none⟩ = some (.int .i64 0) := by rw [hW1]; simp [go_sem]
  have d2 : W1.cell? ⟨w.heap.size + 1, 2, none⟩ = some (.int .i64 0) := by rw [hW1]; simp [go_sem]
  have g0 := f0 ⟨w.heap.size, 0, none⟩ (Nat.le_refl _)
  obtain ⟨W2, hW2⟩ : ∃ W2, W2 = (W1.setCell ⟨w.heap.size, 0, none⟩ (.int .i64 (wrap64 x))).drew := ⟨_, rfl⟩
  have hb2 : Below w.heap.size w W2 := by rw [hW2]; exact (hb1.setCell (Nat.le_refl _) _).drew
  have e0 : W2.cell? ⟨w.heap.size, 0, none⟩ = some (.int .i64 (wrap64 x)) := by rw [hW2]; simp [go_sem, c0]
  have e1 : W2.cell? ⟨w.heap.size, 1, none⟩ = some (.int .i64 y) := by rw [hW2]; simp [go_sem, c1]
  have e2 : W2.cell? ⟨w.heap.size, 2, none⟩ = some (.int .i64 1) := by rw [hW2]; simp [go_sem, c2]
  have e3 : W2.cell? ⟨w.heap.size + 3, 2, none⟩ = some (.int .i64 0) := by rw [hW2]; simp [go_sem, c3]
  have e4 : W2.cell? ⟨w.heap.size + 3, 3, none⟩ = some (.int .i64 1) := by rw [hW2]; simp [go_sem, c4]
  have i0 : W2.cell? ⟨w.heap.size + 1, 0, none⟩ = some (.int .i64 0) := by rw [hW2]; simp [go_sem, d0]
  have i1 : W2.cell? ⟨w.heap.size + 1, 1, none⟩ = some (.int .i64 0) := by rw [hW2]; simp [go_sem, d1]
  have i2 : W2.cell? ⟨w.heap.size + 1, 2, none⟩ = some (.int .i64 0) := by rw [hW2]; simp [go_sem, d2]
  have f2 : ∀ a : Addr, w.heap.size ≤ a.block → W2.frozen? a = false := by
    intro a ha
    rw [hW2]
    show World.frozen? (W1.setCell _ _) a = false
    rw [World.frozen?_setCell]
    exact f0 a ha
  have g1 := f2 ⟨w.heap.size, 1, none⟩ (Nat.le_refl _)
  have m0 := f2 ⟨w.heap.size + 1, 0, none⟩ (Nat.le_succ _)
  have m1 := f2 ⟨w.heap.size + 1, 1, none⟩ (Nat.le_succ _)
  have m2 := f2 ⟨w.heap.size + 1, 2, none⟩ (Nat.le_succ _)
  clear d0 d1 d2 f0 f2
  have H2 := Aside0.mk hW2
  clear hW2
  have H1 := Aside0.mk hW1
  clear hW1
  go_enter Tryd.func37, Tryd.ntmps37
  go_wp2
  refine wp_region_still_tail 10 (by kernel_rfl) (by kernel_rfl) ?_
  simp only [List.take_succ_cons, List.take_zero, List.drop_succ_cons, List.drop_zero]
  change wpStill _ _ ((((((w.alloc (.cells #[.int .i64 x, .int .i64 y, .int .i64 1] 40)).alloc (.cells #[.int .i64 0, .int .i64 0, .int .i64 0] 40)).alloc (.cells #[.int .i64 1, .int .i64 0, .int .i64 0, .int .i64 1, .int .i64 (-1), .int .i64 0, .int .i64 0, .int .i64 (-1)] 82))).alloc (.cells #[.int .i64 1, .int .i64 0, .int .i64 0, .int .i64 1, .int .i64 (-1), .int .i64 1, .int .i64 (-1), .int .i64 0, .int .i64 0, .int .i64 (-1), .int .i64 1, .int .i64 (-1)] 82)).drew) _ _ _
  rw [← H1.out]
  iterate 10 still_step
  refine wpStill_nil ?_
  change wpList _ _ _ _ _ ((((((w.alloc (.cells #[.int .i64 x, .int .i64 y, .int .i64 1] 40)).alloc (.cells #[.int .i64 0, .int .i64 0, .int .i64 0] 40)).alloc (.cells #[.int .i64 1, .int .i64 0, .int .i64 0, .int .i64 1, .int .i64 (-1), .int .i64 0, .int .i64 0, .int .i64 (-1)] 82))).alloc (.cells #[.int .i64 1, .int .i64 0, .int .i64 0, .int .i64 1, .int .i64 (-1), .int .i64 1, .int .i64 (-1), .int .i64 0, .int .i64 0, .int .i64 (-1), .int .i64 1, .int .i64 (-1)] 82)).drew)
  rw [← H1.out]
  go_wp2
  refine wp_region_still_tail 10 (by kernel_rfl) (by kernel_rfl) ?_
  simp only [List.take_succ_cons, List.take_zero, List.drop_succ_cons, List.drop_zero]
  change wpStill _ _ ((W1.setCell ⟨w.heap.size, 0, none⟩ (.int .i64 (wrap64 x))).drew) _ _ _
  rw [← H2.out]
  iterate 10 still_step
  refine wpStill_nil ?_
  change wpList _ _ _ _ _ ((W1.setCell ⟨w.heap.size, 0, none⟩ (.int .i64 (wrap64 x))).drew)
  rw [← H2.out]
  go_wp2
  refine bodyPost_ret (v := .agg #[.int .i64 (wrap64 (x + 0)), .int .i64 (wrap64 (y + 1)), .int .i64 1]) (by simp [results, Tryd.results37, go_sem, e0, e1, e2, i0, i1, i2]) rfl ⟨rfl, by repeat (first | exact hb2 | refine Below.setCell ?_ (by simp) _)⟩
set_option maxHeartbeats 4000000 in
set_option maxRecDepth 100000 in
theorem do_F6_2 (x y  : Int) (w : World)  :
    Calls Tryd.prog 37 #[.agg #[.int .i64 x, .int .i64 y, .int .i64 2], .int .i64 6, .int .u8 70] w fun e w' => e = .returned (.agg #[.int .i64 (wrap64 (x + (-1))), .int .i64 (wrap64 (y + 1)), .int .i64 2]) ∧ Below w.heap.size w w' := by
  have hu := Tryd.underlying40
  obtain ⟨W1, hW1⟩ : ∃ W1, W1 = (((((w.alloc (.cells #[.int .i64 x, .int .i64 y, .int .i64 2] 40)).alloc (.cells #[.int .i64 0, .int .i64 0, .int .i64 0] 40)).alloc (.cells #[.int .i64 1, .int .i64 0, .int .i64 0, .int .i64 1, .int .i64 (-1), .int .i64 0, .int .i64 0, .int .i64 (-1)] 82))).alloc (.cells #[.int .i64 1, .int .i64 0, .int .i64 0, .int .i64 1, .int .i64 (-1), .int .i64 1, .int .i64 (-1), .int .i64 0, .int .i64 0, .int .i64 (-1), .int .i64 1, .int .i64 (-1)] 82)).drew := ⟨_, rfl⟩
  have hb1 : Below w.heap.size w W1 := by rw [hW1]; repeat (first | exact Below.refl _ _ | apply below_alloc | apply Below.drew)
  have c0 : W1.cell? ⟨w.heap.size, 0, none⟩ = some (.int .i64 x) := by rw [hW1]; simp [go_sem]
  have c1 : W1.cell? ⟨w.heap.size, 1, none⟩ = some (.int .i64 y) := by rw [hW1]; simp [go_sem]
  have c2 : W1.cell? ⟨w.heap.size, 2, none⟩ = some (.int .i64 2) := by rw [hW1]; simp [go_sem]
  have c3 : W1.cell? ⟨w.heap.size + 3, 4, none⟩ = some (.int .i64 (-1)) := by rw [hW1]; simp [go_sem]
  have c4 : W1.cell? ⟨w.heap.size + 3, 5, none⟩ = some (.int .i64 1) := by rw [hW1]; simp [go_sem]
  have f0 : ∀ a : Addr, w.heap.size ≤ a.block → W1.frozen? a = false := by
    intro a ha
    rw [hW1]
    show World.frozen? (((((w.alloc (.cells #[.int .i64 x, .int .i64 y, .int .i64 2] 40)).alloc (.cells #[.int .i64 0, .int .i64 0, .int .i64 0] 40)).alloc (.cells #[.int .i64 1, .int .i64 0, .int .i64 0, .int .i64 1, .int .i64 (-1), .int .i64 0, .int .i64 0, .int .i64 (-1)] 82))).alloc (.cells #[.int .i64 1, .int .i64 0, .int .i64 0, .int .i64 1, .int .i64 (-1), .int .i64 1, .int .i64 (-1), .int .i64 0, .int .i64 0, .int .i64 (-1), .int .i64 1, .int .i64 (-1)] 82)) a = false
    rw [frozen?_alloc_cells, frozen?_alloc_cells, frozen?_alloc_cells, frozen?_alloc_cells]
    simp [World.frozen?, Array.getElem?_eq_none ha]
  have d0 : W1.cell? ⟨w.heap.size + 1, 0, none⟩ = some (.int .i64 0) := by rw [hW1]; simp [go_sem]
  have d1 : W1.cell? ⟨w.heap.size + 1, 1, none⟩ = some (.int .i64 0) := by rw [hW1]; simp [go_sem]
  have d2 : W1.cell? ⟨w.heap.size + 1, 2, none⟩ = some (.int .i64 0) := by rw [hW1]; simp [go_sem]
  have g0 := f0 ⟨w.heap.size, 0, none⟩ (Nat.le_refl _)
  obtain ⟨W2, hW2⟩ : ∃ W2, W2 = (W1.setCell ⟨w.heap.size, 0, none⟩ (.int .i64 (wrap64 (x + (-1))))).drew := ⟨_, rfl⟩
  have hb2 : Below w.heap.size w W2 := by rw [hW2]; exact (hb1.setCell (Nat.le_refl _) _).drew
  have e0 : W2.cell? ⟨w.heap.size, 0, none⟩ = some (.int .i64 (wrap64 (x + (-1)))) := by rw [hW2]; simp [go_sem, c0]
  have e1 : W2.cell? ⟨w.heap.size, 1, none⟩ = some (.int .i64 y) := by rw [hW2]; simp [go_sem, c1]
  have e2 : W2.cell? ⟨w.heap.size, 2, none⟩ = some (.int .i64 2) := by rw [hW2]; simp [go_sem, c2]
  have e3 : W2.cell? ⟨w.heap.size + 3, 4, none⟩ = some (.int .i64 (-1)) := by rw [hW2]; simp [go_sem, c3]
  have e4 : W2.cell? ⟨w.heap.size + 3, 5, none⟩ = some (.int .i64 1) := by rw [hW2]; simp [go_sem, c4]
  have i0 : W2.cell? ⟨w.heap.size + 1, 0, none⟩ = some (.int .i64 0) := by rw [hW2]; simp [go_sem, d0]
  have i1 : W2.cell? ⟨w.heap.size + 1, 1, none⟩ = some (.int .i64 0) := by rw [hW2]; simp [go_sem, d1]
  have i2 : W2.cell? ⟨w.heap.size + 1, 2, none⟩ = some (.int .i64 0) := by rw [hW2]; simp [go_sem, d2]
  have f2 : ∀ a : Addr, w.heap.size ≤ a.block → W2.frozen? a = false := by
    intro a ha
    rw [hW2]
    show World.frozen? (W1.setCell _ _) a = false
    rw [World.frozen?_setCell]
    exact f0 a ha
  have g1 := f2 ⟨w.heap.size, 1, none⟩ (Nat.le_refl _)
  have m0 := f2 ⟨w.heap.size + 1, 0, none⟩ (Nat.le_succ _)
  have m1 := f2 ⟨w.heap.size + 1, 1, none⟩ (Nat.le_succ _)
  have m2 := f2 ⟨w.heap.size + 1, 2, none⟩ (Nat.le_succ _)
  clear d0 d1 d2 f0 f2
  have H2 := Aside0.mk hW2
  clear hW2
  have H1 := Aside0.mk hW1
  clear hW1
  go_enter Tryd.func37, Tryd.ntmps37
  go_wp2
  refine wp_region_still_tail 10 (by kernel_rfl) (by kernel_rfl) ?_
  simp only [List.take_succ_cons, List.take_zero, List.drop_succ_cons, List.drop_zero]
  change wpStill _ _ ((((((w.alloc (.cells #[.int .i64 x, .int .i64 y, .int .i64 2] 40)).alloc (.cells #[.int .i64 0, .int .i64 0, .int .i64 0] 40)).alloc (.cells #[.int .i64 1, .int .i64 0, .int .i64 0, .int .i64 1, .int .i64 (-1), .int .i64 0, .int .i64 0, .int .i64 (-1)] 82))).alloc (.cells #[.int .i64 1, .int .i64 0, .int .i64 0, .int .i64 1, .int .i64 (-1), .int .i64 1, .int .i64 (-1), .int .i64 0, .int .i64 0, .int .i64 (-1), .int .i64 1, .int .i64 (-1)] 82)).drew) _ _ _
  rw [← H1.out]
  iterate 10 still_step
  refine wpStill_nil ?_
  change wpList _ _ _ _ _ ((((((w.alloc (.cells #[.int .i64 x, .int .i64 y, .int .i64 2] 40)).alloc (.cells #[.int .i64 0, .int .i64 0, .int .i64 0] 40)).alloc (.cells #[.int .i64 1, .int .i64 0, .int .i64 0, .int .i64 1, .int .i64 (-1), .int .i64 0, .int .i64 0, .int .i64 (-1)] 82))).alloc (.cells #[.int .i64 1, .int .i64 0, .int .i64 0, .int .i64 1, .int .i64 (-1), .int .i64 1, .int .i64 (-1), .int .i64 0, .int .i64 0, .int .i64 (-1), .int .i64 1, .int .i64 (-1)] 82)).drew)
  rw [← H1.out]
  go_wp2
  refine wp_region_still_tail 10 (by kernel_rfl) (by kernel_rfl) ?_
  simp only [List.take_succ_cons, List.take_zero, List.drop_succ_cons, List.drop_zero]
  change wpStill _ _ ((W1.setCell ⟨w.heap.size, 0, none⟩ (.int .i64 (wrap64 (x + (-1))))).drew) _ _ _
  rw [← H2.out]
  iterate 10 still_step
  refine wpStill_nil ?_
  change wpList _ _ _ _ _ ((W1.setCell ⟨w.heap.size, 0, none⟩ (.int .i64 (wrap64 (x + (-1))))).drew)
  rw [← H2.out]
  go_wp2
  refine bodyPost_ret (v := .agg #[.int .i64 (wrap64 (x + (-1))), .int .i64 (wrap64 (y + 1)), .int .i64 2]) (by simp [results, Tryd.results37, go_sem, e0, e1, e2, i0, i1, i2]) rfl ⟨rfl, by repeat (first | exact hb2 | refine Below.setCell ?_ (by simp) _)⟩
set_option maxHeartbeats 4000000 in
set_option maxRecDepth 100000 in
theorem do_F6_3 (x y  : Int) (w : World)  :
    Calls Tryd.prog 37 #[.agg #[.int .i64 x, .int .i64 y, .int .i64 3], .int .i64 6, .int .u8 70] w fun e w' => e = .returned (.agg #[.int .i64 (wrap64 (x + (-1))), .int .i64 (wrap64 (y + 0)), .int .i64 3]) ∧ Below w.heap.size w w' := by
  have hu := Tryd.underlying40
  obtain ⟨W1, hW1⟩ : ∃ W1, W1 = (((((w.alloc (.cells #[.int .i64 x, .int .i64 y, .int .i64 3] 40)).alloc (.cells #[.int .i64 0, .int .i64 0, .int .i64 0] 40)).alloc (.cells #[.int .i64 1, .int .i64 0, .int .i64 0, .int .i64 1, .int .i64 (-1), .int .i64 0, .int .i64 0, .int .i64 (-1)] 82))).alloc (.cells #[.int .i64 1, .int .i64 0, .int .i64 0, .int .i64 1, .int .i64 (-1), .int .i64 1, .int .i64 (-1), .int .i64 0, .int .i64 0, .int .i64 (-1), .int .i64 1, .int .i64 (-1)] 82)).drew := ⟨_, rfl⟩
  have hb1 : Below w.heap.size w W1 := by rw [hW1]; repeat (first | exact Below.refl _ _ | apply below_alloc | apply Below.drew)
  have c0 : W1.cell? ⟨w.heap.size, 0, none⟩ = some (.int .i64 x) := by rw [hW1]; simp [go_sem]
  have c1 : W1.cell? ⟨w.heap.size, 1, none⟩ = some (.int .i64 y) := by rw [hW1]; simp [go_sem]
  have c2 : W1.cell? ⟨w.heap.size, 2, none⟩ = some (.int .i64 3) := by rw [hW1]; simp [go_sem]
  have c3 : W1.cell? ⟨w.heap.size + 3, 6, none⟩ = some (.int .i64 (-1)) := by rw [hW1]; simp [go_sem]
  have c4 : W1.cell? ⟨w.heap.size + 3, 7, none⟩ = some (.int .i64 0) := by rw [hW1]; simp [go_sem]
  have f0 : ∀ a : Addr, w.heap.size ≤ a.block → W1.frozen? a = false := by
    intro a ha
    rw [hW1]
    show World.frozen? (((((w.alloc (.cells #[.int .i64 x, .int .i64 y, .int .i64 3] 40)).alloc (.cells #[.int .i64 0, .int .i64 0, .int .i64 0] 40)).alloc (.cells #[.int .i64 1, .int .i64 0, .int .i64 0, .int .i64 1, .int .i64 (-1), .int .i64 0, .int .i64 0, .int .i64 (-1)] 82))).alloc (.cells #[.int .i64 1, .int .i64 0, .int .i64 0, .int .i64 1, .int .i64 (-1), .int .i64 1, .int .i64 (-1), .int .i64 0, .int .i64 0, .int .i64 (-1), .int .i64 1, .int .i64 (-1)] 82)) a = false
    rw [frozen?_alloc_cells, frozen?_alloc_cells, frozen?_alloc_cells, frozen?_alloc_cells]
    simp [World.frozen?, Array.getElem?_eq_none ha]
  have d0 : W1.cell? ⟨w.heap.size + 1, 0, none⟩ = some (.int .i64 0) := by rw [hW1]; simp [go_sem]
  have d1 : W1.cell? ⟨w.heap.size + 1, 1, none⟩ = some (.int .i64 0) := by rw [hW1]; simp [go_sem]
  have d2 : W1.cell? ⟨w.heap.size + 1, 2, none⟩ = some (.int .i64 0) := by rw [hW1]; simp [go_sem]
  have g0 := f0 ⟨w.heap.size, 0, none⟩ (Nat.le_refl _)
  obtain ⟨W2, hW2⟩ : ∃ W2, W2 = (W1.setCell ⟨w.heap.size, 0, none⟩ (.int .i64 (wrap64 (x + (-1))))).drew := ⟨_, rfl⟩
  have hb2 : Below w.heap.size w W2 := by rw [hW2]; exact (hb1.setCell (Nat.le_refl _) _).drew
  have e0 : W2.cell? ⟨w.heap.size, 0, none⟩ = some (.int .i64 (wrap64 (x + (-1)))) := by rw [hW2]; simp [go_sem, c0]
  have e1 : W2.cell? ⟨w.heap.size, 1, none⟩ = some (.int .i64 y) := by rw [hW2]; simp [go_sem, c1]
  have e2 : W2.cell? ⟨w.heap.size, 2, none⟩ = some (.int .i64 3) := by rw [hW2]; simp [go_sem, c2]
  have e3 : W2.cell? ⟨w.heap.size + 3, 6, none⟩ = some (.int .i64 (-1)) := by rw [hW2]; simp [go_sem, c3]
  have e4 : W2.cell? ⟨w.heap.size + 3, 7, none⟩ = some (.int .i64 0) := by rw [hW2]; simp [go_sem, c4]
  have i0 : W2.cell? ⟨w.heap.size + 1, 0, none⟩ = some (.int .i64 0) := by rw [hW2]; simp [go_sem, d0]
  have i1 : W2.cell? ⟨w.heap.size + 1, 1, none⟩ = some (.int .i64 0) := by rw [hW2]; simp [go_sem, d1]
  have i2 : W2.cell? ⟨w.heap.size + 1, 2, none⟩ = some (.int .i64 0) := by rw [hW2]; simp [go_sem, d2]
  have f2 : ∀ a : Addr, w.heap.size ≤ a.block → W2.frozen? a = false := by
    intro a ha
    rw [hW2]
    show World.frozen? (W1.setCell _ _) a = false
    rw [World.frozen?_setCell]
    exact f0 a ha
  have g1 := f2 ⟨w.heap.size, 1, none⟩ (Nat.le_refl _)
  have m0 := f2 ⟨w.heap.size + 1, 0, none⟩ (Nat.le_succ _)
  have m1 := f2 ⟨w.heap.size + 1, 1, none⟩ (Nat.le_succ _)
  have m2 := f2 ⟨w.heap.size + 1, 2, none⟩ (Nat.le_succ _)
  clear d0 d1 d2 f0 f2
  have H2 := Aside0.mk hW2
  clear hW2
  have H1 := Aside0.mk hW1
  clear hW1
  go_enter Tryd.func37, Tryd.ntmps37
  go_wp2
  refine wp_region_still_tail 10 (by kernel_rfl) (by kernel_rfl) ?_
  simp only [List.take_succ_cons, List.take_zero, List.drop_succ_cons, List.drop_zero]
  change wpStill _ _ ((((((w.alloc (.cells #[.int .i64 x, .int .i64 y, .int .i64 3] 40)).alloc (.cells #[.int .i64 0, .int .i64 0, .int .i64 0] 40)).alloc (.cells #[.int .i64 1, .int .i64 0, .int .i64 0, .int .i64 1, .int .i64 (-1), .int .i64 0, .int .i64 0, .int .i64 (-1)] 82))).alloc (.cells #[.int .i64 1, .int .i64 0, .int .i64 0, .int .i64 1, .int .i64 (-1), .int .i64 1, .int .i64 (-1), .int .i64 0, .int .i64 0, .int .i64 (-1), .int .i64 1, .int .i64 (-1)] 82)).drew) _ _ _
  rw [← H1.out]
  iterate 10 still_step
  refine wpStill_nil ?_
  change wpList _ _ _ _ _ ((((((w.alloc (.cells #[.int .i64 x, .int .i64 y, .int .i64 3] 40)).alloc (.cells #[.int .i64 0, .int .i64 0, .int .i64 0] 40)).alloc (.cells #[.int .i64 1, .int .i64 0, .int .i64 0, .int .i64 1, .int .i64 (-1), .int .i64 0, .int .i64 0, .int .i64 (-1)] 82))).alloc (.cells #[.int .i64 1, .int .i64 0, .int .i64 0, .int .i64 1, .int .i64 (-1), .int .i64 1, .int .i64 (-1), .int .i64 0, .int .i64 0, .int .i64 (-1), .int .i64 1, .int .i64 (-1)] 82)).drew)
  rw [← H1.out]
  go_wp2
  refine wp_region_still_tail 10 (by kernel_rfl) (by kernel_rfl) ?_
  simp only [List.take_succ_cons, List.take_zero, List.drop_succ_cons, List.drop_zero]
  change wpStill _ _ ((W1.setCell ⟨w.heap.size, 0, none⟩ (.int .i64 (wrap64 (x + (-1))))).drew) _ _ _
  rw [← H2.out]
  iterate 10 still_step
  refine wpStill_nil ?_
  change wpList _ _ _ _ _ ((W1.setCell ⟨w.heap.size, 0, none⟩ (.int .i64 (wrap64 (x + (-1))))).drew)
  rw [← H2.out]
  go_wp2
  refine bodyPost_ret (v := .agg #[.int .i64 (wrap64 (x + (-1))), .int .i64 (wrap64 (y + 0)), .int .i64 3]) (by simp [results, Tryd.results37, go_sem, e0, e1, e2, i0, i1, i2]) rfl ⟨rfl, by repeat (first | exact hb2 | refine Below.setCell ?_ (by simp) _)⟩
set_option maxHeartbeats 4000000 in
set_option maxRecDepth 100000 in
theorem do_F6_4 (x y  : Int) (w : World)  :
    Calls Tryd.prog 37 #[.agg #[.int .i64 x, .int .i64 y, .int .i64 4], .int .i64 6, .int .u8 70] w fun e w' => e = .returned (.agg #[.int .i64 (wrap64 (x + 0)), .int .i64 (wrap64 (y + (-1))), .int .i64 4]) ∧ Below w.heap.size w w' := by
  have hu := Tryd.underlying40
  obtain ⟨W1, hW1⟩ : ∃ W1, W1 = (((((w.alloc (.cells #[.int .i64 x, .int .i64 y, .int .i64 4] 40)).alloc (.cells #[.int .i64 0, .int .i64 0, .int .i64 0] 40)).alloc (.cells #[.int .i64 1, .int .i64 0, .int .i64 0, .int .i64 1, .int .i64 (-1), .int .i64 0, .int .i64 0, .int .i64 (-1)] 82))).alloc (.cells #[.int .i64 1, .int .i64 0, .int .i64 0, .int .i64 1, .int .i64 (-1), .int .i64 1, .int .i64 (-1), .int .i64 0, .int .i64 0, .int .i64 (-1), .int .i64 1, .int .i64 (-1)] 82)).drew := ⟨_, rfl⟩
  have hb1 : Below w.heap.size w W1 := by rw [hW1]; repeat (first | exact Below.refl _ _ | apply below_alloc | apply Below.drew)
  have c0 : W1.cell? ⟨w.heap.size, 0, none⟩ = some (.int .i64 x) := by rw [hW1]; simp [go_sem]
  have c1 : W1.cell? ⟨w.heap.size, 1, none⟩ = some (.int .i64 y) := by rw [hW1]; simp [go_sem]
  have c2 : W1.cell? ⟨w.heap.size, 2, none⟩ = some (.int .i64 4) := by rw [hW1]; simp [go_sem]
  have c3 : W1.cell? ⟨w.heap.size + 3, 8, none⟩ = some (.int .i64 0) := by rw [hW1]; simp [go_sem]
  have c4 : W1.cell? ⟨w.heap.size + 3, 9, none⟩ = some (.int .i64 (-1)) := by rw [hW1]; simp [go_sem]
  have f0 : ∀ a : Addr, w.heap.size ≤ a.block → W1.frozen? a = false := by
    intro a ha
    rw [hW1]
    show World.frozen? (((((w.alloc (.cells #[.int .i64 x, .int .i64 y, .int .i64 4] 40)).alloc (.cells #[.int .i64 0, .int .i64 0, .int .i64 0] 40)).alloc (.cells #[.int .i64 1, .int .i64 0, .int .i64 0, .int .i64 1, .int .i64 (-1), .int .i64 0, .int .i64 0, .int .i64 (-1)] 82))).alloc (.cells #[.int .i64 1, .int .i64 0, .int .i64 0, .int .i64 1, .int .i64 (-1), .int .i64 1, .int .i64 (-1), .int .i64 0, .int .i64 0, .int .i64 (-1), .int .i64 1, .int .i64 (-1)] 82)) a = false
    rw [frozen?_alloc_cells, frozen?_alloc_cells, frozen?_alloc_cells, frozen?_alloc_cells]
    simp [World.frozen?, Array.getElem?_eq_none ha]
  have d0 : W1.cell? ⟨w.heap.size + 1, 0, none⟩ = some (.int .i64 0) := by rw [hW1]; simp [go_sem]
  have d1 : W1.cell? ⟨w.heap.size + 1, 1, none⟩ = some (.int .i64 0) := by rw [hW1]; simp [go_sem]
  have d2 : W1.cell? ⟨w.heap.size + 1, 2, none⟩ = some (.int .i64 0) := by rw [hW1]; simp [go_sem]
  have g0 := f0 ⟨w.heap.size, 0, none⟩ (Nat.le_refl _)
  obtain ⟨W2, hW2⟩ : ∃ W2, W2 = (W1.setCell ⟨w.heap.size, 0, none⟩ (.int .i64 (wrap64 x))).drew := ⟨_, rfl⟩
  have hb2 : Below w.heap.size w W2 := by rw [hW2]; exact (hb1.setCell (Nat.le_refl _) _).drew
  have e0 : W2.cell? ⟨w.heap.size, 0, none⟩ = some (.int .i64 (wrap64 x)) := by rw [hW2]; simp [go_sem, c0]
  have e1 : W2.cell? ⟨w.heap.size, 1, none⟩ = some (.int .i64 y) := by rw [hW2]; simp [go_sem, c1]
  have e2 : W2.cell? ⟨w.heap.size, 2, none⟩ = some (.int .i64 4) := by rw [hW2]; simp [go_sem, c2]
  have e3 : W2.cell? ⟨w.heap.size + 3, 8, none⟩ = some (.int .i64 0) := by rw [hW2]; simp [go_sem, c3]
  have e4 : W2.cell? ⟨w.heap.size + 3, 9, none⟩ = some (.int .i64 (-1)) := by rw [hW2]; simp [go_sem, c4]
  have i0 : W2.cell? ⟨w.heap.size + 1, 0, none⟩ = some (.int .i64 0) := by rw [hW2]; simp [go_sem, d0]
  have i1 : W2.cell? ⟨w.heap.size + 1, 1, none⟩ = some (.int .i64 0) := by rw [hW2]; simp [go_sem, d1]
  have i2 : W2.cell? ⟨w.heap.size + 1, 2, none⟩ = some (.int .i64 0) := by rw [hW2]; simp [go_sem, d2]
  have f2 : ∀ a : Addr, w.heap.size ≤ a.block → W2.frozen? a = false := by
    intro a ha
    rw [hW2]
    show World.frozen? (W1.setCell _ _) a = false
    rw [World.frozen?_setCell]
    exact f0 a ha
  have g1 := f2 ⟨w.heap.size, 1, none⟩ (Nat.le_refl _)
  have m0 := f2 ⟨w.heap.size + 1, 0, none⟩ (Nat.le_succ _)
  have m1 := f2 ⟨w.heap.size + 1, 1, none⟩ (Nat.le_succ _)
  have m2 := f2 ⟨w.heap.size + 1, 2, none⟩ (Nat.le_succ _)
  clear d0 d1 d2 f0 f2
  have H2 := Aside0.mk hW2
  clear hW2
  have H1 := Aside0.mk hW1
  clear hW1
  go_enter Tryd.func37, Tryd.ntmps37
  go_wp2
  refine wp_region_still_tail 10 (by kernel_rfl) (by kernel_rfl) ?_
  simp only [List.take_succ_cons, List.take_zero, List.drop_succ_cons, List.drop_zero]
  change wpStill _ _ ((((((w.alloc (.cells #[.int .i64 x, .int .i64 y, .int .i64 4] 40)).alloc (.cells #[.int .i64 0, .int .i64 0, .int .i64 0] 40)).alloc (.cells #[.int .i64 1, .int .i64 0, .int .i64 0, .int .i64 1, .int .i64 (-1), .int .i64 0, .int .i64 0, .int .i64 (-1)] 82))).alloc (.cells #[.int .i64 1, .int .i64 0, .int .i64 0, .int .i64 1, .int .i64 (-1), .int .i64 1, .int .i64 (-1), .int .i64 0, .int .i64 0, .int .i64 (-1), .int .i64 1, .int .i64 (-1)] 82)).drew) _ _ _
  rw [← H1.out]
  iterate 10 still_step
  refine wpStill_nil ?_
  change wpList _ _ _ _ _ ((((((w.alloc (.cells #[.int .i64 x, .int .i64 y, .int .i64 4] 40)).alloc (.cells #[.int .i64 0, .int .i64 0, .int .i64 0] 40)).alloc (.cells #[.int .i64 1, .int .i64 0, .int .i64 0, .int .i64 1, .int .i64 (-1), .int .i64 0, .int .i64 0, .int .i64 (-1)] 82))).alloc (.cells #[.int .i64 1, .int .i64 0, .int .i64 0, .int .i64 1, .int .i64 (-1), .int .i64 1, .int .i64 (-1), .int .i64 0, .int .i64 0, .int .i64 (-1), .int .i64 1, .int .i64 (-1)] 82)).drew)
  rw [← H1.out]
  go_wp2
  refine wp_region_still_tail 10 (by kernel_rfl) (by kernel_rfl) ?_
  simp only [List.take_succ_cons, List.take_zero, List.drop_succ_cons, List.drop_zero]
  change wpStill _ _ ((W1.setCell ⟨w.heap.size, 0, none⟩ (.int .i64 (wrap64 x))).drew) _ _ _
  rw [← H2.out]
  iterate 10 still_step
  refine wpStill_nil ?_
  change wpList _ _ _ _ _ ((W1.setCell ⟨w.heap.size, 0, none⟩ (.int .i64 (wrap64 x))).drew)
  rw [← H2.out]
  go_wp2
  refine bodyPost_ret (v := .agg #[.int .i64 (wrap64 (x + 0)), .int .i64 (wrap64 (y + (-1))), .int .i64 4]) (by simp [results, Tryd.results37, go_sem, e0, e1, e2, i0, i1, i2]) rfl ⟨rfl, by repeat (first | exact hb2 | refine Below.setCell ?_ (by simp) _)⟩
set_option maxHeartbeats 4000000 in
set_option maxRecDepth 100000 in
theorem do_F6_5 (x y  : Int) (w : World)  :
    Calls Tryd.prog 37 #[.agg #[.int .i64 x, .int .i64 y, .int .i64 5], .int .i64 6, .int .u8 70] w fun e w' => e = .returned (.agg #[.int .i64 (wrap64 (x + 1)), .int .i64 (wrap64 (y + (-1))), .int .i64 5]) ∧ Below w.heap.size w w' := by
  have hu := Tryd.underlying40
  obtain ⟨W1, hW1⟩ : ∃ W1, W1 = (((((w.alloc (.cells #[.int .i64 x, .int .i64 y, .int .i64 5] 40)).alloc (.cells #[.int .i64 0, .int .i64 0, .int .i64 0] 40)).alloc (.cells #[.int .i64 1, .int .i64 0, .int .i64 0, .int .i64 1, .int .i64 (-1), .int .i64 0, .int .i64 0, .int .i64 (-1)] 82))).alloc (.cells #[.int .i64 1, .int .i64 0, .int .i64 0, .int .i64 1, .int .i64 (-1), .int .i64 1, .int .i64 (-1), .int .i64 0, .int .i64 0, .int .i64 (-1), .int .i64 1, .int .i64 (-1)] 82)).drew := ⟨_, rfl⟩
  have hb1 : Below w.heap.size w W1 := by rw [hW1]; repeat (first | exact Below.refl _ _ | apply below_alloc | apply Below.drew)
  have c0 : W1.cell? ⟨w.heap.size, 0, none⟩ = some (.int .i64 x) := by rw [hW1]; simp [go_sem]
  have c1 : W1.cell? ⟨w.heap.size, 1, none⟩ = some (.int .i64 y) := by rw [hW1]; simp [go_sem]
  have c2 : W1.cell? ⟨w.heap.size, 2, none⟩ = some (.int .i64 5) := by rw [hW1]; simp [go_sem]
  have c3 : W1.cell? ⟨w.heap.size + 3, 10, none⟩ = some (.int .i64 1) := by rw [hW1]; simp [go_sem]
  have c4 : W1.cell? ⟨w.heap.size + 3, 11, none⟩ = some (.int .i64 (-1)) := by rw [hW1]; simp [go_sem]
  have f0 : ∀ a : Addr, w.heap.size ≤ a.block → W1.frozen? a = false := by
    intro a ha
    rw [hW1]
    show World.frozen? (((((w.alloc (.cells #[.int .i64 x, .int .i64 y, .int .i64 5] 40)).alloc (.cells #[.int .i64 0, .int .i64 0, .int .i64 0] 40)).alloc (.cells #[.int .i64 1, .int .i64 0, .int .i64 0, .int .i64 1, .int .i64 (-1), .int .i64 0, .int .i64 0, .int .i64 (-1)] 82))).alloc (.cells #[.int .i64 1, .int .i64 0, .int .i64 0, .int .i64 1, .int .i64 (-1), .int .i64 1, .int .i64 (-1), .int .i64 0, .int .i64 0, .int .i64 (-1), .int .i64 1, .int .i64 (-1)] 82)) a = false
    rw [frozen?_alloc_cells, frozen?_alloc_cells, frozen?_alloc_cells, frozen?_alloc_cells]
    simp [World.frozen?, Array.getElem?_eq_none ha]
  have d0 : W1.cell? ⟨w.heap.size + 1, 0, none⟩ = some (.int .i64 0) := by rw [hW1]; simp [go_sem]
  have d1 : W1.cell? ⟨w.heap.size + 1, 1, none⟩ = some (.int .i64 0) := by rw [hW1]; simp [go_sem]
  have d2 : W1.cell? ⟨w.heap.size + 1, 2, none⟩ = some (.int .i64 0) := by rw [hW1]; simp [go_sem]
  have g0 := f0 ⟨w.heap.size, 0, none⟩ (Nat.le_refl _)
  obtain ⟨W2, hW2⟩ : ∃ W2, W2 = (W1.setCell ⟨w.heap.size, 0, none⟩ (.int .i64 (wrap64 (x + 1)))).drew := ⟨_, rfl⟩
  have hb2 : Below w.heap.size w W2 := by rw [hW2]; exact (hb1.setCell (Nat.le_refl _) _).drew
  have e0 : W2.cell? ⟨w.heap.size, 0, none⟩ = some (.int .i64 (wrap64 (x + 1))) := by rw [hW2]; simp [go_sem, c0]
  have e1 : W2.cell? ⟨w.heap.size, 1, none⟩ = some (.int .i64 y) := by rw [hW2]; simp [go_sem, c1]
  have e2 : W2.cell? ⟨w.heap.size, 2, none⟩ = some (.int .i64 5) := by rw [hW2]; simp [go_sem, c2]
  have e3 : W2.cell? ⟨w.heap.size + 3, 10, none⟩ = some (.int .i64 1) := by rw [hW2]; simp [go_sem, c3]
  have e4 : W2.cell? ⟨w.heap.size + 3, 11, none⟩ = some (.int .i64 (-1)) := by rw [hW2]; simp [go_sem, c4]
  have i0 : W2.cell? ⟨w.heap.size + 1, 0, none⟩ = some (.int .i64 0) := by rw [hW2]; simp [go_sem, d0]
  have i1 : W2.cell? ⟨w.heap.size + 1, 1, none⟩ = some (.int .i64 0) := by rw [hW2]; simp [go_sem, d1]
  have i2 : W2.cell? ⟨w.heap.size + 1, 2, none⟩ = some (.int .i64 0) := by rw [hW2]; simp [go_sem, d2]
  have f2 : ∀ a : Addr, w.heap.size ≤ a.block → W2.frozen? a = false := by
    intro a ha
    rw [hW2]
    show World.frozen? (W1.setCell _ _) a = false
    rw [World.frozen?_setCell]
    exact f0 a ha
  have g1 := f2 ⟨w.heap.size, 1, none⟩ (Nat.le_refl _)
  have m0 := f2 ⟨w.heap.size + 1, 0, none⟩ (Nat.le_succ _)
  have m1 := f2 ⟨w.heap.size + 1, 1, none⟩ (Nat.le_succ _)
  have m2 := f2 ⟨w.heap.size + 1, 2, none⟩ (Nat.le_succ _)
  clear d0 d1 d2 f0 f2
  have H2 := Aside0.mk hW2
  clear hW2
  have H1 := Aside0.mk hW1
  clear hW1
  go_enter Tryd.func37, Tryd.ntmps37
  go_wp2
  refine wp_region_still_tail 10 (by kernel_rfl) (by kernel_rfl) ?_
  simp only [List.take_succ_cons, List.take_zero, List.drop_succ_cons, List.drop_zero]
  change wpStill _ _ ((((((w.alloc (.cells #[.int .i64 x, .int .i64 y, .int .i64 5] 40)).alloc (.cells #[.int .i64 0, .int .i64 0, .int .i64 0] 40)).alloc (.cells #[.int .i64 1, .int .i64 0, .int .i64 0, .int .i64 1, .int .i64 (-1), .int .i64 0, .int .i64 0, .int .i64 (-1)] 82))).alloc (.cells #[.int .i64 1, .int .i64 0, .int .i64 0, .int .i64 1, .int .i64 (-1), .int .i64 1, .int .i64 (-1), .int .i64 0, .int .i64 0, .int .i64 (-1), .int .i64 1, .int .i64 (-1)] 82)).drew) _ _ _
  rw [← H1.out]
  iterate 10 still_step
  refine wpStill_nil ?_
  change wpList _ _ _ _ _ ((((((w.alloc (.cells #[.int .i64 x, .int .i64 y, .int .i64 5] 40)).alloc (.cells #[.int .i64 0, .int .i64 0, .int .i64 0] 40)).alloc (.cells #[.int .i64 1, .int .i64 0, .int .i64 0, .int .i64 1, .int .i64 (-1), .int .i64 0, .int .i64 0, .int .i64 (-1)] 82))).alloc (.cells #[.int .i64 1, .int .i64 0, .int .i64 0, .int .i64 1, .int .i64 (-1), .int .i64 1, .int .i64 (-1), .int .i64 0, .int .i64 0, .int .i64 (-1), .int .i64 1, .int .i64 (-1)] 82)).drew)
  rw [← H1.out]
  go_wp2
  refine wp_region_still_tail 10 (by kernel_rfl) (by kernel_rfl) ?_
  simp only [List.take_succ_cons, List.take_zero, List.drop_succ_cons, List.drop_zero]
  change wpStill _ _ ((W1.setCell ⟨w.heap.size, 0, none⟩ (.int .i64 (wrap64 (x + 1)))).drew) _ _ _
  rw [← H2.out]
  iterate 10 still_step
  refine wpStill_nil ?_
  change wpList _ _ _ _ _ ((W1.setCell ⟨w.heap.size, 0, none⟩ (.int .i64 (wrap64 (x + 1)))).drew)
  rw [← H2.out]
  go_wp2
  refine bodyPost_ret (v := .agg #[.int .i64 (wrap64 (x + 1)), .int .i64 (wrap64 (y + (-1))), .int .i64 5]) (by simp [results, Tryd.results37, go_sem, e0, e1, e2, i0, i1, i2]) rfl ⟨rfl, by repeat (first | exact hb2 | refine Below.setCell ?_ (by simp) _)⟩
theorem impl_walker_do.calls (a0_0 a0_1 a0_2 a1 a2 : Int) (r1 : Int) (r2 : Int) (r3 : Int) (w : World) (h : impl_walker_do.f a0_0 a0_1 a0_2 a1 a2 = some (r1, r2, r3)) :
    Calls Tryd.prog 37 #[.agg #[.int .i64 a0_0, .int .i64 a0_1, .int .i64 a0_2], .int .i64 a1, .int .u8 a2] w fun e w' => e = .returned (.agg #[.int .i64 r1, .int .i64 r2, .int .i64 r3]) ∧ Below w.heap.size w w' := by
  unfold impl_walker_do.f at h
  by_cases hg : a1 = 6
  · subst hg
    by_cases h1 : a2 = 70
    · subst h1
      rw [if_pos rfl] at h
      split at h
      · rename_i hd
        have hl : ((wayL 6).length : Int) = 6 := rfl
        rw [hl] at hd
        rcases (show a0_2 = 0 ∨ a0_2 = 1 ∨ a0_2 = 2 ∨ a0_2 = 3 ∨ a0_2 = 4 ∨ a0_2 = 5 by omega) with rfl | rfl | rfl | rfl | rfl | rfl
        all_goals obtain ⟨rfl, rfl, rfl⟩ : r1 = _ ∧ r2 = _ ∧ r3 = _ := by injection h with h; injection h with e1 h; injection h with e2 e3; exact ⟨e1.symm, e2.symm, e3.symm⟩
        · exact do_F6_0 _ _ w
        · exact do_F6_1 _ _ w
        · exact do_F6_2 _ _ w
        · exact do_F6_3 _ _ w
        · exact do_F6_4 _ _ w
        · exact do_F6_5 _ _ w
      · cases h
    · rw [if_neg h1] at h
      by_cases h2 : a2 = 76
      · subst h2
        rw [if_pos rfl, if_neg (by decide)] at h
        obtain ⟨rfl, rfl, rfl⟩ : r1 = _ ∧ r2 = _ ∧ r3 = _ := by injection h with h; injection h with e1 h; injection h with e2 e3; exact ⟨e1.symm, e2.symm, e3.symm⟩
        exact do_L6 _ _ _ w
      · rw [if_neg h2] at h
        by_cases h3 : a2 = 82
        · subst h3
          rw [if_pos rfl, if_neg (by decide)] at h
          obtain ⟨rfl, rfl, rfl⟩ : r1 = _ ∧ r2 = _ ∧ r3 = _ := by injection h with h; injection h with e1 h; injection h with e2 e3; exact ⟨e1.symm, e2.symm, e3.symm⟩
          exact do_R6 _ _ _ w
        · rw [if_neg h3] at h
          obtain ⟨rfl, rfl, rfl⟩ : r1 = _ ∧ r2 = _ ∧ r3 = _ := by injection h with h; injection h with e1 h; injection h with e2 e3; exact ⟨e1.symm, e2.symm, e3.symm⟩
          exact do_other6 _ _ _ _ w h1 h2 h3
  · by_cases h1 : a2 = 70
    · subst h1
      rw [if_pos rfl] at h
      split at h
      · rename_i hd
        have hw : wayL a1 = [[1, 0], [0, 1], [-1, 0], [0, -1]] := by unfold wayL; rw [if_neg hg]
        rw [hw] at hd h
        have hl : (([[1, 0], [0, 1], [-1, 0], [0, -1]] : List (List Int)).length : Int) = 4 := rfl
        rw [hl] at hd
        rcases (show a0_2 = 0 ∨ a0_2 = 1 ∨ a0_2 = 2 ∨ a0_2 = 3 by omega) with rfl | rfl | rfl | rfl
        all_goals obtain ⟨rfl, rfl, rfl⟩ : r1 = _ ∧ r2 = _ ∧ r3 = _ := by injection h with h; injection h with e1 h; injection h with e2 e3; exact ⟨e1.symm, e2.symm, e3.symm⟩
        · exact do_F4_0 _ _ _ w hg
        · exact do_F4_1 _ _ _ w hg
        · exact do_F4_2 _ _ _ w hg
        · exact do_F4_3 _ _ _ w hg
      · cases h
    · rw [if_neg h1] at h
      by_cases h2 : a2 = 76
      · subst h2
        rw [if_pos rfl] at h
        by_cases h0 : a1 = 0
        · rw [if_pos h0] at h; cases h
        · rw [if_neg h0] at h
          obtain ⟨rfl, rfl, rfl⟩ : r1 = _ ∧ r2 = _ ∧ r3 = _ := by injection h with h; injection h with e1 h; injection h with e2 e3; exact ⟨e1.symm, e2.symm, e3.symm⟩
          exact do_L4 _ _ _ _ w hg h0
      · rw [if_neg h2] at h
        by_cases h3 : a2 = 82
        · subst h3
          rw [if_pos rfl] at h
          by_cases h0 : a1 = 0
          · rw [if_pos h0] at h; cases h
          · rw [if_neg h0] at h
            obtain ⟨rfl, rfl, rfl⟩ : r1 = _ ∧ r2 = _ ∧ r3 = _ := by injection h with h; injection h with e1 h; injection h with e2 e3; exact ⟨e1.symm, e2.symm, e3.symm⟩
            exact do_R4 _ _ _ _ w hg h0
        · rw [if_neg h3] at h
          obtain ⟨rfl, rfl, rfl⟩ : r1 = _ ∧ r2 = _ ∧ r3 = _ := by injection h with h; injection h with e1 h; injection h with e2 e3; exact ⟨e1.symm, e2.symm, e3.symm⟩
          exact do_other4 _ _ _ _ _ w h1 h2 h3 hg

end Go.Proofs.YtlnjfbnabjgffaaDoor.X
