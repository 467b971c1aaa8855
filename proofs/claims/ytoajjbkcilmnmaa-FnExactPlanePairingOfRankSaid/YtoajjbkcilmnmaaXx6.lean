-- Written by a program of this work (wip/tools/xprint.py, which drives the kit's print over a whole seat). Not trusted: it is checked when it is built.
import Derived.Test.YtoajjbkcilmnmaaXx0
import Derived.Test.YtoajjbkcilmnmaaXx1
namespace Go.Proofs.Ytoajjbkcilmnmaa.X
open Go.RowKit Go.Proofs.YtoajjbkcilmnmaaW.PrintWords Go.Proofs.YtoajjbkcilmnmaaW.PrintLast Go.Proofs.YtoajjbkcilmnmaaW.PrintMore
attribute [local go_sem] max2_int min2_int max_two min_two max_three min_three max_four min_four   -- for this text's walks alone
set_option linter.unusedVariables false
set_option linter.unusedSimpArgs false

/-! ### impl_ordered: function 33 (given by hand) -/
theorem grow3 (W : World) (o1 o2 o3 : Obj) : ((W.alloc o1).alloc o2).drew.alloc o3 = Go.Sort.grow (W.drewN 1) #[o1, o2, o3] := by
  simp only [Go.Sort.grow, World.alloc, World.drew, World.drewN, Array.push_eq_append, Array.append_assoc]
  rfl
theorem cmpCompare_quiet (x y : Int) (W : World) : Calls Try.prog 70 #[.int .i64 x, .int .i64 y] W fun e w' => e = .returned (.int .i64 (Lib.compareInt x y)) ∧ w' = W := by
  have hn : ∀ z : Int, ∀ W : World, Calls Try.prog 83 #[.int .i64 z] W fun e w' => e = .returned (.bool false) ∧ w' = W := by
    intro z W
    go_enter Try.func83, Try.ntmps83
    go_wp2
    go_ret
    exact ⟨rfl, rfl⟩
  have HN := Aside0.mk hn
  clear hn
  have hL : Lib.compareInt x y = if x < y then -1 else if y < x then 1 else 0 := by unfold Lib.compareInt; rfl
  rw [hL]
  clear hL
  by_cases h1 : x < y
  · rw [if_pos h1]
    go_enter Try.func70, Try.ntmps70
    go_wp2_with (go_at_call 83; refine (HN.out _ _).mono ?_; rintro e w' ⟨rfl, rfl⟩)
    go_ret
    exact ⟨rfl, rfl⟩
  · rw [if_neg h1]
    by_cases h2 : y < x
    · rw [if_pos h2]
      go_enter Try.func70, Try.ntmps70
      go_wp2_with (go_at_call 83; refine (HN.out _ _).mono ?_; rintro e w' ⟨rfl, rfl⟩)
      go_ret
      exact ⟨rfl, rfl⟩
    · rw [if_neg h2]
      go_enter Try.func70, Try.ntmps70
      go_wp2_with (go_at_call 83; refine (HN.out _ _).mono ?_; rintro e w' ⟨rfl, rfl⟩)
      go_ret
      exact ⟨rfl, rfl⟩
theorem cmpOr_quiet (x y : Int) (g c : Nat) (W : World) (h0 : W.cell? ⟨g, 0, none⟩ = some (.int .i64 x)) (h1 : W.cell? ⟨g, 1, none⟩ = some (.int .i64 y)) : Calls Try.prog 69 #[.slice (some ⟨g, 0, none⟩) 2 c] W fun e w' => e = .returned (.int .i64 (if x = 0 then y else x)) ∧ w' = W := by
  by_cases hx : x = 0
  · subst hx
    rw [if_pos rfl]
    by_cases hy : y = 0
    · subst hy
      go_enter Try.func69, Try.ntmps69
      go_wp2
      refine wp_loop_rounds 3 ?_
      rw [rounds_succ]
      go_wp2
      rw [rounds_succ]
      go_wp2
      rw [rounds_succ]
      go_wp2
      go_ret
      exact ⟨rfl, rfl⟩
    · have hb : (y != 0) = true := by simp [hy]
      go_enter Try.func69, Try.ntmps69
      go_wp2
      refine wp_loop_rounds 2 ?_
      rw [rounds_succ]
      go_wp2
      rw [rounds_succ]
      go_wp2
      go_ret
      exact ⟨rfl, rfl⟩
  · rw [if_neg hx]
    have hb : (x != 0) = true := by simp [hx]
    go_enter Try.func69, Try.ntmps69
    go_wp2
    refine wp_loop_rounds 1 ?_
    rw [rounds_succ]
    go_wp2
    go_ret
    exact ⟨rfl, rfl⟩
set_option maxHeartbeats 4000000 in
set_option maxRecDepth 100000 in
theorem compareChords_exact (a b c d : Int) (W : World) : Calls Try.prog 55 #[.agg #[.int .i64 a, .int .i64 b], .agg #[.int .i64 c, .int .i64 d]] W fun e w' =>
    e = .returned (.int .i64 (if Lib.compareInt a c = 0 then Lib.compareInt b d else Lib.compareInt a c)) ∧ ∃ q os', w' = Go.Sort.grow (W.drewN q) os' := by
  have hu := Try.underlying52
  obtain ⟨x, hx⟩ : ∃ x, Lib.compareInt a c = x := ⟨_, rfl⟩
  obtain ⟨y, hy⟩ : ∃ y, Lib.compareInt b d = y := ⟨_, rfl⟩
  obtain ⟨z, hz⟩ : ∃ z, (if x = 0 then y else x) = z := ⟨_, rfl⟩
  have hX := cmpCompare_quiet a c
  have hY := cmpCompare_quiet b d
  rw [hx] at hX
  rw [hy] at hY
  rw [hx, hy, hz]
  have HX := Aside0.mk hX
  have HY := Aside0.mk hY
  have HZ := Aside0.mk hz
  clear hx hy hz hX hY
  go_enter Try.func55, Try.ntmps55
  go_wp2
  refine wp_region_still_tail 10 (by kernel_rfl) (by kernel_rfl) ?_
  obtain ⟨W2, hW2⟩ : ∃ W2, W2 = ((W.alloc (.cells #[.int .i64 a, .int .i64 b] 52)).alloc (.cells #[.int .i64 c, .int .i64 d] 52)).drew := ⟨_, rfl⟩
  have c0 : W2.cell? ⟨W.heap.size, 0, none⟩ = some (.int .i64 a) := by rw [hW2]; simp
  have c1 : W2.cell? ⟨W.heap.size, 1, none⟩ = some (.int .i64 b) := by rw [hW2]; simp
  have c2 : W2.cell? ⟨W.heap.size + 1, 0, none⟩ = some (.int .i64 c) := by rw [hW2]; simp
  have c3 : W2.cell? ⟨W.heap.size + 1, 1, none⟩ = some (.int .i64 d) := by rw [hW2]; simp
  change wpStill _ _ (((W.alloc (.cells #[.int .i64 a, .int .i64 b] 52)).alloc (.cells #[.int .i64 c, .int .i64 d] 52)).drew) _ _ _
  rw [← hW2]
  have HW := Aside0.mk hW2
  clear hW2
  simp only [List.take_succ_cons, List.take_zero, List.drop_succ_cons, List.drop_zero]
  iterate 4 still_step
  still_call (HX.out _)
  iterate 4 still_step
  still_call (HY.out _)
  refine wpStill_nil ?_
  clear c0 c1 c2 c3
  change wpList _ _ _ _ _ (((W.alloc (.cells #[.int .i64 a, .int .i64 b] 52)).alloc (.cells #[.int .i64 c, .int .i64 d] 52)).drew)
  rw [← HW.out]
  have HC := Aside0.mk (cmpOr_quiet x y W2.heap.size 2 (W2.alloc (.cells #[.int .i64 x, .int .i64 y] 3)) (by simp) (by simp))
  rw [HZ.out] at HC
  go_wp2_with fail
  refine HC.out.mono ?_
  rintro e w' ⟨rfl, rfl⟩
  go_wp2_with fail
  go_ret
  exact ⟨rfl, 1, #[.cells #[.int .i64 a, .int .i64 b] 52, .cells #[.int .i64 c, .int .i64 d] 52, .cells #[.int .i64 x, .int .i64 y] 3], by rw [HW.out]; exact grow3 _ _ _ _⟩
section
open Go.Sort Go.Lib
instance : Inhabited S52 := ⟨z52⟩
instance : DecidableEq S52 := fun a b => if h : a.f0 = b.f0 ∧ a.f1 = b.f1 then isTrue (by cases a; cases b; simp at h; simp [h]) else isFalse (fun e => h (by subst e; exact ⟨rfl, rfl⟩))
def encChord (x : S52) : List Value := [.int .i64 x.f0, .int .i64 x.f1]
theorem encChord_len (x : S52) : (encChord x).length = 2 := rfl
theorem encChord_one (x : S52) : ∀ v ∈ encChord x, v.oneCell' = true := by
  intro v hv
  simp [encChord] at hv
  rcases hv with rfl | rfl <;> rfl
/-- Element j's two cells. -/
theorem chord_cells {w : World} {blk : Nat} {d : Array S52} (h : HoldsK encChord 2 w blk 0 d) {j : Nat} (hj : j < d.size) :
    (w.cell? ⟨blk, j * 2, none⟩ = some (.int .i64 d[j]!.f0) ∧ w.frozen? ⟨blk, j * 2, none⟩ = false) ∧ w.cell? ⟨blk, j * 2 + 1, none⟩ = some (.int .i64 d[j]!.f1) ∧ w.frozen? ⟨blk, j * 2 + 1, none⟩ = false := by
  have h0 := h.cell hj (c := 0) (by omega)
  have h1 := h.cell hj (c := 1) (by omega)
  simp only [Nat.zero_add, Nat.add_zero] at h0 h1
  exact ⟨h0, h1⟩
theorem setMany_one (d : Array S52) (i : Nat) (x : S52) (hi : i < d.size) : setMany (flatK encChord 2 d) (i * 2) (encChord x) = flatK encChord 2 (d.setIfInBounds i x) := by
  refine ext_get! (by simp) fun t ht => ?_
  have ht' : t < d.size * 2 := by simpa using ht
  rw [get_setMany _ _ _ t (by simpa using ht'), get_flatK _ _ _ t ht', get_flatK _ _ _ t (by simpa using ht'), encChord_len]
  by_cases h : i * 2 ≤ t ∧ t < i * 2 + 2
  · rw [if_pos h]
    have e : t / 2 = i := by omega
    rw [e, getElem!_set_same d i x hi, show t - i * 2 = t % 2 by omega]
  · rw [if_neg h, getElem!_set_other d i (t / 2) x (by omega)]
theorem store_chord {w wr : World} {n blk : Nat} {dk : Array S52} {i : Nat} (hi : i < dk.size) (hwr : wr = putRowK encChord 2 (Sort.ahead w n) blk 0 dk) (x : S52) :
    ((wr.setCell ⟨blk, i * 2, none⟩ (.int .i64 x.f0)).setCell ⟨blk, i * 2 + 1, none⟩ (.int .i64 x.f1)) = putRowK encChord 2 (Sort.ahead w n) blk 0 (dk.setIfInBounds i x) := by
  subst hwr
  have h := setCells_putRow (Sort.ahead w n) blk 0 (encChord x) (i * 2) (flatK encChord 2 dk) (by rw [encChord_len, size_flatK]; omega)
  rw [setMany_one dk i x hi] at h
  unfold putRowK
  rw [← h]
  simp [World.setCells, encChord]
theorem chordEqn (w : World) (a b c d : Int) : (binOp .eql 52 (.agg #[.int .i64 a, .int .i64 b]) (.agg #[.int .i64 c, .int .i64 d])).run Try.prog w = .ok (.bool (a == c && b == d)) w := by
  simp only [binOp]
  simp [Op.equal, Op.maxDepth, eqA52 9998 w a c b d]
theorem chordNeq (w : World) (a b c d : Int) : (binOp .neq 52 (.agg #[.int .i64 a, .int .i64 b]) (.agg #[.int .i64 c, .int .i64 d])).run Try.prog w = .ok (.bool (!(a == c && b == d))) w := by
  simp only [binOp]
  simp [Op.equal, Op.maxDepth, eqA52 9998 w a c b d]
theorem zero52 (w : World) : (zeroValue 52).run Try.prog w = .ok (.agg #[.int .i64 0, .int .i64 0]) w := by kernel_rfl
theorem run_clear_chord (w : World) (ty : TypeId) (b o n c : Nat) (hn : 0 < n) (hc : ∀ j, j < n * 2 → (w.cell? ⟨b, o + j, none⟩).isSome = true) (hf : ∀ j, j < n * 2 → w.frozen? ⟨b, o + j, none⟩ = false) :
    (Builtin.clear_ #[22] ty #[.slice (some ⟨b, o, none⟩) n c]).run Try.prog w = .ok (.tuple #[]) (w.setCells b o (List.replicate (n * 2) (.int .i64 0))) := by
  have hzc : (Builtin.zeroCells #[.int .i64 0, .int .i64 0] n).toList = List.replicate (n * 2) (.int .i64 0) := by
    simp [Builtin.zeroCells]
    apply List.ext_getElem
    · simp
    · intro i h1 h2
      simp
      rcases Nat.mod_two_eq_zero_or_one i with h | h <;> simp [h]
  have hst := run_storeCells_cells (P := Try.prog) b o (List.replicate (n * 2) (.int .i64 0)) 0 w (by simpa using hc) (by simpa using hf) (by intro v hv'; rw [List.eq_of_mem_replicate hv']; rfl)
  simp only [Nat.add_zero] at hst
  obtain ⟨m, rfl⟩ : ∃ m, n = m + 1 := ⟨n - 1, by omega⟩
  have hcells : (Value.agg #[.int .i64 0, .int .i64 0]).cells = #[.int .i64 0, .int .i64 0] := rfl
  simp [Builtin.clear_, run_underlying Try.underlying22, zero52, hcells, hzc, hst]
theorem clear_world {w wr : World} {n blk kk : Nat} {d dk : Array S52} (hI : CompInv d d.size kk dk) (hwr : wr = putRowK encChord 2 (Sort.ahead w n) blk 0 dk) :
    wr.setCells blk (kk * 2) (List.replicate ((d.size - kk) * 2) (.int .i64 0)) = putRowK encChord 2 (Sort.ahead w n) blk 0 (compactUpTo d d.size ++ List.replicate (d.size - (compactUpTo d d.size).length) z52).toArray := by
  subst hwr
  have hs := hI.size
  have hl := hI.len
  have hk := hI.lt
  have h := setCells_putRow (Sort.ahead w n) blk 0 (List.replicate ((d.size - kk) * 2) (.int .i64 0)) (kk * 2) (flatK encChord 2 dk) (by simp; omega)
  rw [Nat.zero_add] at h
  unfold putRowK
  rw [h]
  congr 1
  refine ext_get! (by simp; omega) fun t ht => ?_
  have ht' : t < dk.size * 2 := by simpa using ht
  rw [get_setMany _ _ _ t (by simpa using ht'), get_flatK _ _ _ t ht', get_flatK _ _ _ t (by simp; omega)]
  by_cases hlt : t / 2 < kk
  · rw [if_neg (by simp; omega)]
    have e := hI.low (t / 2) hlt
    have : (compactUpTo d d.size ++ List.replicate (d.size - (compactUpTo d d.size).length) z52).toArray[t / 2]! = dk[t / 2]! := by
      rw [getElem!_pos _ _ (by simp; omega)]
      simp only [List.getElem_toArray]
      rw [List.getElem_append_left (by omega)]
      rw [List.getElem?_eq_getElem (by omega)] at e
      exact Option.some.inj e
    rw [this]
  · rw [if_pos (by simp; omega)]
    have : (compactUpTo d d.size ++ List.replicate (d.size - (compactUpTo d d.size).length) z52).toArray[t / 2]! = z52 := by
      rw [getElem!_pos _ _ (by simp; omega)]
      simp only [List.getElem_toArray]
      rw [List.getElem_append_right (by omega)]
      simp
    rw [this]
    rw [getElem!_pos _ _ (by simp; omega)]
    simp only [List.getElem_replicate]
    rcases Nat.mod_two_eq_zero_or_one t with e | e <;> simp [e, encChord, z52]
set_option maxHeartbeats 8000000 in
set_option maxRecDepth 100000 in
theorem compact_walk (blk cap : Nat) (d : Array S52) (w : World) (hH : HoldsK encChord 2 w blk 0 d) (hsz : d.size ≤ 4611686018427387904) (hcap : d.size ≤ cap) :
    Calls Try.prog 56 #[.slice (some ⟨blk, 0, none⟩) d.size cap] w fun e w' => e = .returned (.slice (some ⟨blk, 0, none⟩) (compactUpTo d d.size).length cap) ∧ ∃ q, w' = putRowK encChord 2 (Sort.ahead w q) blk 0 (compactUpTo d d.size ++ List.replicate (d.size - (compactUpTo d d.size).length) z52).toArray := by
  have same : ∀ q, (∀ j, j < d.size → keeps d j = true) → (compactUpTo d d.size).length = d.size ∧ w.drewN q = putRowK encChord 2 (Sort.ahead w q) blk 0 (compactUpTo d d.size ++ List.replicate (d.size - (compactUpTo d d.size).length) z52).toArray := by
    intro q hall
    have e : compactUpTo d d.size = d.toList := by rw [compactUpTo_all d _ hall, range_map_get]
    rw [e]
    refine ⟨by simp, ?_⟩
    simp only [Array.length_toList, Nat.sub_self, List.replicate_zero, List.append_nil, Array.toArray_toList]
    exact (putRowK_self encChord 2 (Sort.ahead w q) blk 0 d (holdsK_ahead encChord 2 w q blk 0 d hH)).symm
  have HS := Aside0.mk same
  clear same
  by_cases h2 : d.size < 2
  · have HH := Aside0.mk hH
    clear hH
    go_enter Try.func56, Try.ntmps56
    go_wp2
    go_ret
    obtain ⟨e1, e2⟩ := HS.out 0 (fun j hj => keeps_lt_one d j (by omega))
    exact ⟨by rw [e1]; rfl, 0, e2⟩
  · have h2' : decide ((d.size : Int) < 2) = false := decide_eq_false (by omega)
    go_enter Try.func56, Try.ntmps56
    go_wp2
    go_loopg [3] d.size (fun g s3 wr => ∃ k q : Nat, 1 ≤ k ∧ k ≤ d.size ∧ d.size - k ≤ g ∧ s3 = .int .i64 k ∧ wr = w.drewN q ∧ Aside0 (∀ j, j < k → keeps d j = true))
    case atStart => exact ⟨1, 0, Nat.le_refl _, by omega, by omega, rfl, rfl, ⟨keeps_lt_one d⟩⟩
    case round =>
      obtain ⟨k, q, hk1, hk, hg, rfl, rfl, A⟩ := hrel
      by_cases hlt : k < d.size
      · obtain ⟨⟨c1, f1⟩, ⟨c2, f2⟩⟩ := chord_cells hH hlt
        obtain ⟨⟨c3, f3⟩, ⟨c4, f4⟩⟩ := chord_cells hH (show k - 1 < d.size by omega)
        have HH := Aside0.mk hH
        clear hH
        generalize hx : d[k]! = x at c1 c2
        generalize hy : d[k - 1]! = y at c3 c4
        have B := Aside0.mk (show d[k]! = x ∧ d[k - 1]! = y from ⟨hx, hy⟩)
        clear hx hy f1 f2 f3 f4
        by_cases hdup : x = y
        · subst hdup
          have heq := fun W => chordEqn W x.f0 x.f1 x.f0 x.f1
          simp only [beq_self_eq_true, Bool.and_self] at heq
          go_wp2_with fail
          go_quiet (fail)
          go_wp2
          clear c1 c2 c3 c4 heq
          go_loopg [3, 5] d.size (fun g s3 s5 wr => ∃ (kk k2 q2 : Nat) (dk : Array S52), s3 = .int .i64 kk ∧ s5 = .int .i64 k2 ∧ 1 ≤ k2 ∧ k + k2 ≤ d.size ∧ d.size - (k + k2) ≤ g ∧ Aside0 (wr = putRowK encChord 2 (Sort.ahead w q2) blk 0 dk) ∧ Aside0 (CompInv d (k + k2) kk dk))
          case atStart => exact ⟨k, 1, q + nq, d, rfl, rfl, Nat.le_refl _, by omega, by omega, ⟨(putRowK_self encChord 2 (Sort.ahead w (q + nq)) blk 0 d (holdsK_ahead encChord 2 w (q + nq) blk 0 d HH.out)).symm⟩, ⟨CompInv.start A.out (keeps_neg (by omega) (by rw [B.out.1, B.out.2]))⟩⟩
          case round =>
            obtain ⟨kk, k2, q2, dk, rfl, rfl, h1, hle, hg2, HWR, HI⟩ := hrel
            have hkk := HI.out.lt
            have hds := HI.out.size
            have hHk : HoldsK encChord 2 wr blk 0 dk := by rw [HWR.out]; exact holdsK_putRowK encChord 2 _ blk 0 d dk (holdsK_ahead encChord 2 w q2 blk 0 d HH.out) hds
            by_cases hlt2 : k + k2 < d.size
            · obtain ⟨⟨m1, _⟩, ⟨m2, _⟩⟩ := chord_cells hHk (show k + k2 < dk.size by omega)
              obtain ⟨⟨p1, _⟩, ⟨p2, _⟩⟩ := chord_cells hHk (show k + k2 - 1 < dk.size by omega)
              obtain ⟨⟨o1, fo1⟩, ⟨o2, fo2⟩⟩ := chord_cells hHk (show kk < dk.size by omega)
              rw [HI.out.high (k + k2) (by omega)] at m1 m2
              rw [HI.out.high (k + k2 - 1) (by omega)] at p1 p2
              clear hHk
              rw [show (k + k2) * 2 = k * 2 + k2 * 2 by omega] at m1 m2
              rw [show (k + k2 - 1) * 2 = k * 2 + (k2 - 1) * 2 by omega] at p1 p2
              generalize hu : d[k + k2]! = u at m1 m2
              generalize hv : d[k + k2 - 1]! = v at p1 p2
              generalize dk[kk]! = old at o1 o2
              have C := Aside0.mk (show d[k + k2]! = u ∧ d[k + k2 - 1]! = v from ⟨hu, hv⟩)
              have HDS := Aside0.mk hds
              clear hu hv hds
              by_cases huv : u = v
              · subst huv
                have heq := fun W => chordNeq W u.f0 u.f1 u.f0 u.f1
                simp only [beq_self_eq_true, Bool.and_self, Bool.not_true] at heq
                go_wp2_with fail
                go_quiet (fail)
                go_wp2
                go_roundg (d.size - (k + (k2 + 1)))
                case measure => omega
                case rel => exact ⟨kk, k2 + 1, _, dk, rfl, by go_num, by omega, by omega, Nat.le_refl _, ⟨drewN_worldK encChord 2 HWR.out _⟩, ⟨HI.out.skip (keeps_neg (by omega) (by rw [C.out.1, C.out.2]))⟩⟩
              · have hne : (u.f0 == v.f0 && u.f1 == v.f1) = false := by
                  rw [Bool.eq_false_iff]
                  intro h
                  simp only [Bool.and_eq_true, beq_iff_eq] at h
                  exact huv (by cases u; cases v; simp at h; simp [h])
                have heq := fun W => chordNeq W u.f0 u.f1 v.f0 v.f1
                simp only [hne, Bool.not_false] at heq
                have HD := Aside0.mk huv
                clear huv hne
                go_wp2_with fail
                go_quiet (fail)
                go_wp2
                go_roundg (d.size - (k + (k2 + 1)))
                case measure => omega
                case rel => exact ⟨kk + 1, k2 + 1, _, dk.setIfInBounds kk u, by go_num, by go_num, by omega, by omega, Nat.le_refl _, ⟨store_chord (by have := HDS.out; omega) (drewN_worldK encChord 2 HWR.out _) u⟩, ⟨by have := HI.out.keep hlt2 (keeps_pos (by rw [C.out.1, C.out.2]; exact HD.out)); rwa [C.out.1] at this⟩⟩
            · have hend : k + k2 = d.size := by omega
              have hcl : ∀ ty, (Builtin.clear_ #[22] ty #[.slice (some ⟨blk, kk * 2, none⟩) (d.size - kk) (cap - kk)]).run Try.prog wr = .ok (.tuple #[]) (wr.setCells blk (kk * 2) (List.replicate ((d.size - kk) * 2) (.int .i64 0))) :=
                fun ty => run_clear_chord wr ty blk (kk * 2) _ _ (by omega) (fun j hj => by
                  have h1 := hHk (kk * 2 + j) (by simp; omega)
                  rw [Nat.zero_add] at h1
                  rw [h1.1]; rfl) (fun j hj => by
                  have h1 := hHk (kk * 2 + j) (by simp; omega)
                  rw [Nat.zero_add] at h1
                  exact h1.2)
              clear hHk
              go_wp2
              go_ret
              have hI := HI.out
              rw [hend] at hI
              exact ⟨by rw [hI.len]; rfl, q2, clear_world hI HWR.out⟩
        · have hne : (x.f0 == y.f0 && x.f1 == y.f1) = false := by
            rw [Bool.eq_false_iff]
            intro h
            simp only [Bool.and_eq_true, beq_iff_eq] at h
            exact hdup (by cases x; cases y; simp at h; simp [h])
          have heq := fun W => chordEqn W x.f0 x.f1 y.f0 y.f1
          rw [hne] at heq
          have HD := Aside0.mk hdup
          clear hdup hne
          go_wp2_with fail
          go_quiet (fail)
          go_wp2
          go_roundg (d.size - (k + 1))
          case measure => omega
          case rel =>
            refine ⟨k + 1, _, by omega, by omega, Nat.le_refl _, by go_num, rfl, ⟨fun j hj => ?_⟩⟩
            by_cases e : j = k
            · subst e
              exact keeps_pos (by rw [B.out.1, B.out.2]; exact HD.out)
            · exact A.out j (by omega)
      · have : k = d.size := by omega
        subst this
        have HH := Aside0.mk hH
        clear hH
        go_wp2
        go_ret
        obtain ⟨e1, e2⟩ := HS.out q A.out
        exact ⟨by rw [e1]; rfl, q, e2⟩
--OD
/-- A row of chords that is the call's own: where it lies, and its cells. -/
theorem chord_enter {w : World} {base : Nat} {ok : Nat → Prop} {g n cap : Nat} {l : List S52} (h : Kd.R k52 52 w base ok (.slice (some ⟨g, 0, none⟩) n cap) l) :
    HoldsK encChord 2 w g 0 l.toArray := by
  have hn := (Kd.R_reads' h).1
  intro t ht
  have ht' : t < l.length * 2 := by simpa using ht
  obtain ⟨c, hcl, hM, hcc, hff⟩ := Kd.R_elem h z52 ((t / 2 : Nat) : Int) (by omega) (by omega)
  obtain rfl := k52_openM hM
  have hsz : k52.sz = 2 := rfl
  rw [hsz] at hcc hff
  rw [get_flatK _ _ _ t (by simpa using ht')]
  have e1 : (((t / 2 : Nat) : Int)).toNat = t / 2 := by omega
  rw [e1] at hcc hff
  have e2 : l.toArray[t / 2]! = l.getD (t / 2) z52 := by
    rw [getElem!_pos _ _ (by simp; omega), List.getD_eq_getElem?_getD, List.getElem?_eq_getElem (by omega)]
    simp
  rw [e2, Nat.zero_add]
  rcases Nat.mod_two_eq_zero_or_one t with e | e
  · have hc := hcc 0 _ rfl
    have hf := hff 0
    rw [show t / 2 * 2 + 0 = t by omega] at hc hf
    rw [e]
    exact ⟨hc, hf⟩
  · have hc := hcc 1 _ rfl
    have hf := hff 1
    rw [show t / 2 * 2 + 1 = t by omega] at hc hf
    rw [e]
    exact ⟨hc, hf⟩
/-- What a block of chords holds, told as a row of the call's own. -/
theorem chord_leave {w : World} {base : Nat} {ok : Nat → Prop} {g m cap : Nat} {cur : Array Value} {l : List S52} (hb : w.heap[g]? = some (.cells cur 52 (0, 0))) (hbase : base ≤ g) (hcur : cur.size = cap * 2) (hmax : cap ≤ maxLen) (hl : l.length = m) (hm : m ≤ cap) (hok : ok g)
    (hH : ∀ t, t < m * 2 → cur[t]? = some (encChord l[t / 2]!)[t % 2]!) :
    Kd.R k52 52 w base ok (.slice (some ⟨g, 0, none⟩) m cap) l := by
  have hinner : (cur.toList.take (m * 2)).length = m * 2 := by
    rw [List.length_take, Array.length_toList]; omega
  refine ⟨fun k hk => ?_, cur.toList.take (m * 2), ?_, ?_⟩
  · simp [Value.ownBlock] at hk
    exact hk ▸ hok
  · show w.ownsRow base 52 2 _ l.length _
    rw [hl]
    exact ⟨hinner, .inr ⟨g, cap, cur, rfl, hbase, hb, hm, hmax, hcur, rfl⟩⟩
  · show Reps _ 2 l _
    refine ⟨by rw [hinner, hl], fun j p hj => ?_⟩
    have hjl : j < l.length := (List.getElem?_eq_some_iff.1 hj).1
    have e : ((cur.toList.take (m * 2)).drop (j * 2)).take 2 = [.int .i64 p.f0, .int .i64 p.f1] := by
      apply List.ext_getElem?
      intro i
      rw [List.getElem?_take, List.getElem?_drop, List.getElem?_take, Array.getElem?_toList]
      by_cases hi : i < 2
      · rw [if_pos hi, if_pos (by omega), hH _ (by omega)]
        have e3 : l[(j * 2 + i) / 2]! = p := by
          rw [show (j * 2 + i) / 2 = j by omega, getElem!_pos l j hjl]
          rw [List.getElem?_eq_getElem hjl] at hj
          exact Option.some.inj hj
        rw [e3, show (j * 2 + i) % 2 = i by omega]
        rcases (show i = 0 ∨ i = 1 by omega) with rfl | rfl <;> rfl
      · rw [if_neg hi, List.getElem?_eq_none (by simp; omega)]
    rw [e]
    exact k52_mkM _ _ _ p
theorem putRowK_block {w : World} {g q : Nat} {d : Array S52} {cur : Array Value} (hb : w.heap[g]? = some (.cells cur 52 (0, 0))) (hs : d.size * 2 ≤ cur.size) :
    ∃ cur', (putRowK encChord 2 (Sort.ahead w q) g 0 d).heap[g]? = some (.cells cur' 52 (0, 0)) ∧ cur'.size = cur.size ∧ ∀ t, t < d.size * 2 → cur'[t]? = some (encChord d[t / 2]!)[t % 2]! := by
  refine ⟨putCells id 0 (flatK encChord 2 d) cur, ?_, by simp [putCells], fun t ht => ?_⟩
  · simp [putRowK, putRow, mapBlock, Sort.ahead, Array.getElem?_modify, hb, onCells]
  · simp only [putCells, Array.getElem?_mapIdx, Array.getElem?_eq_getElem (show t < cur.size by omega), Option.map_some]
    rw [if_pos (by simp; omega), Nat.sub_zero, get_flatK _ _ _ t ht]
    rfl
theorem putRowK_frame (w : World) (g q : Nat) (d : Array S52) : (putRowK encChord 2 (Sort.ahead w q) g 0 d).heap.size = w.heap.size ∧ ∀ k, k ≠ g → (putRowK encChord 2 (Sort.ahead w q) g 0 d).heap[k]? = w.heap[k]? := by
  refine ⟨by simp [putRowK, putRow, mapBlock, Sort.ahead], fun k hk => ?_⟩
  simp [putRowK, putRow, mapBlock, Sort.ahead, Array.getElem?_modify, Ne.symm hk]
--SORT
/-- Chords in their order: by A, then by B. -/
def chordCmp (x y : S52) : Int := if Lib.compareInt x.f0 y.f0 = 0 then Lib.compareInt x.f1 y.f1 else Lib.compareInt x.f0 y.f0
def chordLt (x y : S52) : Bool := decide (x.f0 < y.f0 ∨ (x.f0 = y.f0 ∧ x.f1 < y.f1))
theorem chord_ltOf (x y : S52) : ltOf chordCmp x y = chordLt x y := by
  unfold ltOf chordCmp chordLt Lib.compareInt
  refine decide_eq_decide.2 ?_
  repeat' split
  all_goals omega
theorem chord_swo : SWO (ltOf chordCmp) where
  irrefl x := by rw [chord_ltOf]; simp [chordLt]
  trans x y z h1 h2 := by rw [chord_ltOf] at *; simp [chordLt] at *; omega
  ntrans x y z h1 h2 := by rw [chord_ltOf] at *; simp [chordLt] at *; omega
theorem chord_total (x y : S52) (h1 : ltOf chordCmp x y = false) (h2 : ltOf chordCmp y x = false) : x = y := by
  rw [chord_ltOf] at *
  simp [chordLt] at *
  cases x; cases y
  simp at *
  omega
theorem chord_lays (blk size : Nat) (w : World) : CmpLays Try.prog 55 #[] encChord 2 chordCmp blk 0 size w :=
  fun _ _ _ _ x y => compareChords_exact x.f0 x.f1 y.f0 y.f1 _
/-- Sorted, each once. -/
def ordL (l : List S52) : List S52 := Lib.compact (l.mergeSort fun x y => !chordLt y x)
def impl_ordered.f (l0 : List S52) : Option (List S52) := if l0.length ≤ 1000 then some (ordL l0) else none
set_option maxHeartbeats 2000000 in
theorem compact_empty (A : Option Addr) (c : Nat) (w : World) : Calls Try.prog 56 #[.slice A 0 c] w fun e w' => e = .returned (.slice A 0 c) ∧ w' = w := by
  go_enter Try.func56, Try.ntmps56
  go_wp2
  go_ret
  exact ⟨rfl, rfl⟩
set_option maxHeartbeats 4000000 in
set_option maxRecDepth 100000 in
theorem ordered_walk (g cap : Nat) (l : List S52) (w : World) (hH : HoldsK encChord 2 w g 0 l.toArray) (hg : g < w.heap.size) (hl : l.length ≤ 1000) (hcap : l.length ≤ cap) :
    Calls Try.prog 33 #[.slice (some ⟨g, 0, none⟩) l.length cap] w fun e w' => e = .returned (.slice (some ⟨g, 0, none⟩) (ordL l).length cap) ∧ ∃ n q os, w' = putRowK encChord 2 (Sort.ahead (sortWorldK encChord 2 w g 0 n (l.mergeSort fun x y => !chordLt y x).toArray os) q) g 0 (ordL l ++ List.replicate (l.length - (ordL l).length) z52).toArray := by
  have eg : ∀ args w, (callFunc 55 args).run Try.prog w = .ok (.enter 55 args) w := enters_of Try.func55 (by kernel_rfl) rfl
  have hcon := AnyQ.slices_SortFunc_total Try.sortChord 2 Try.isAgg52 Try.sizeOf52 encChord encChord_len encChord_one chordCmp chord_swo 55 #[] g 0 cap l.toArray w eg (chord_lays g _ w) hH hg (by simp; omega) chord_total
  change Calls Try.prog 54 _ _ _ at hcon
  have hlt : (fun x y => !(ltOf chordCmp) y x) = fun x y => !chordLt y x := by funext x y; rw [chord_ltOf]
  rw [hlt] at hcon
  simp only [List.size_toArray, List.toList_toArray] at hcon
  obtain ⟨s, hs⟩ : ∃ s, (l.mergeSort fun x y => !chordLt y x) = s := ⟨_, rfl⟩
  have hsl : s.length = l.length := by rw [← hs]; simp
  rw [hs] at hcon ⊢
  have HS := Aside0.mk hs
  have HSL := Aside0.mk hsl
  have HCON := Aside0.mk hcon
  have HH := Aside0.mk hH
  have HCAP := Aside0.mk hcap
  clear hs hsl hcon hH hcap hlt
  go_enter Try.func33, Try.ntmps33
  go_wp2_with fail
  refine HCON.out.mono ?_
  rintro e w' ⟨rfl, n, os, rfl⟩
  have hHs : HoldsK encChord 2 (sortWorldK encChord 2 w g 0 n s.toArray os) g 0 s.toArray := by
    unfold sortWorldK
    exact holdsK_grow encChord 2 _ os g 0 _ (by rw [size_putRowK]; exact hg) (holdsK_putRowK encChord 2 _ g 0 l.toArray s.toArray HH.out (by simp [HSL.out]))
  have hc := compact_walk g cap s.toArray _ hHs (by simp [HSL.out]; omega) (by simp [HSL.out]; exact HCAP.out)
  simp only [List.size_toArray] at hc
  rw [HSL.out] at hc
  have ho : ordL l = compactUpTo s.toArray l.length := by unfold ordL Lib.compact; rw [HS.out, HSL.out]
  rw [← ho] at hc
  have HC := Aside0.mk hc
  clear hHs hc ho
  obtain ⟨W1, hW1⟩ : ∃ W1, sortWorldK encChord 2 w g 0 n s.toArray os = W1 := ⟨_, rfl⟩
  rw [hW1] at HC ⊢
  have HW1 := Aside0.mk hW1
  clear hW1
  go_wp2_with fail
  refine HC.out.mono ?_
  rintro e w' ⟨rfl, q, rfl⟩
  go_wp2_with fail
  go_ret
  exact ⟨rfl, n, q, os, by rw [HW1.out]⟩
--FIN
theorem compact_len (d : Array S52) (m : Nat) : (compactUpTo d m).length ≤ m := by
  unfold compactUpTo
  rw [List.length_map]
  exact Nat.le_trans (List.length_filter_le _ _) (by simp)
theorem ordL_len (l : List S52) : (ordL l).length ≤ l.length := by
  unfold ordL Lib.compact
  have := compact_len (l.mergeSort fun x y => !chordLt y x).toArray (l.mergeSort fun x y => !chordLt y x).length
  simp at this
  simpa using this
set_option maxHeartbeats 4000000 in
set_option maxRecDepth 100000 in
theorem ordered_empty (A : Option Addr) (c : Nat) (w : World) : Calls Try.prog 33 #[.slice A 0 c] w fun e w' => e = .returned (.slice A 0 c) ∧ w' = w := by
  have hcon := fun W => AnyF.slices_SortFunc_none Try.sortChord A c (.func (.func 55) #[] #[]) W
  change ∀ W, Calls Try.prog 54 _ _ _ at hcon
  have HCON := Aside0.mk hcon
  clear hcon
  go_enter Try.func33, Try.ntmps33
  go_wp2_with fail
  refine (HCON.out _).mono ?_
  rintro e w' ⟨rfl, rfl⟩
  go_wp2_with fail
  refine (compact_empty _ _ _).mono ?_
  rintro e w' ⟨rfl, rfl⟩
  go_wp2_with fail
  go_ret
  exact ⟨rfl, rfl⟩
theorem impl_ordered.calls (P0_ : Nat → Prop) (u9000_ : Value) (l0 : List S52) (r : List S52) (w0 w : World) (hB : Below w0.heap.size w0 w) (ho0 : Kd.R k52 52 w w0.heap.size P0_ u9000_ l0) (h : impl_ordered.f l0 = some r) :
    Calls Try.prog 33 #[u9000_] w fun e w' => ∃ v0_ : Value, e = .returned v0_ ∧ Kd.R k52 52 w' w0.heap.size (fun k_ => (P0_ k_ ∨ w.heap.size ≤ k_)) v0_ r ∧ Below w0.heap.size w0 w' ∧ Kept w w' (fun k_ => P0_ k_) := by
  unfold impl_ordered.f at h
  by_cases hlen : l0.length ≤ 1000
  · rw [if_pos hlen] at h
    obtain rfl := Option.some.inj h
    clear h
    by_cases h0 : l0.length = 0
    · obtain rfl : l0 = [] := List.eq_nil_of_length_eq_zero h0
      obtain ⟨A, c, rfl, _, _⟩ := Kd.R_reads ho0
      refine (ordered_empty A c w).mono ?_
      rintro e w' ⟨rfl, rfl⟩
      have e0 : ordL [] = [] := by
        have := ordL_len []
        exact List.eq_nil_of_length_eq_zero (by simpa using this)
      rw [e0]
      exact ⟨_, rfl, Kd.R_mono ho0 (fun k hk => .inl hk), hB, Kept.refl _ _⟩
    · obtain ⟨g, cap, rfl, hbase, hlt, cells, hcells⟩ := Kd.R_form ho0 (by omega)
      have hcap := (Kd.R_reads' ho0).2.1
      have hP : P0_ g := ho0.1 g rfl
      have hH := chord_enter ho0
      obtain ⟨_, _, hown, _⟩ := ho0
      obtain ⟨cur, hcur, hsize, hmax⟩ : ∃ cur : Array Value, w.heap[g]? = some (.cells cur 52 (0, 0)) ∧ cur.size = cap * 2 ∧ cap ≤ maxLen := by
        rcases hown.2 with ⟨e0, _⟩ | ⟨g', cap', cur, e0, hb, hg, hn, hm, hs, ht⟩
        · cases e0
        · injection e0 with e1 _ e3
          injection e1 with e1
          injection e1 with e1
          subst e1; subst e3
          exact ⟨cur, hg, hs, hm⟩
      refine (ordered_walk g cap l0 w hH hlt hlen hcap).mono ?_
      rintro e w' ⟨rfl, n, q, os, rfl⟩
      have hol := ordL_len l0
      have hms : (l0.mergeSort fun x y => !chordLt y x).length = l0.length := by simp
      obtain ⟨f1a, f1b⟩ := putRowK_frame w g n (l0.mergeSort fun x y => !chordLt y x).toArray
      obtain ⟨c1, k1a, k1b, _⟩ := putRowK_block (q := n) (d := (l0.mergeSort fun x y => !chordLt y x).toArray) hcur (by simp; omega)
      have hgrow : ∀ k, k < w.heap.size → (sortWorldK encChord 2 w g 0 n (l0.mergeSort fun x y => !chordLt y x).toArray os).heap[k]? = (putRowK encChord 2 (Sort.ahead w n) g 0 (l0.mergeSort fun x y => !chordLt y x).toArray).heap[k]? := by
        intro k hk
        show ((putRowK encChord 2 (Sort.ahead w n) g 0 _).heap ++ os)[k]? = _
        rw [Array.getElem?_append_left (by omega)]
      have hsz1 : w.heap.size ≤ (sortWorldK encChord 2 w g 0 n (l0.mergeSort fun x y => !chordLt y x).toArray os).heap.size := by
        show w.heap.size ≤ ((putRowK encChord 2 (Sort.ahead w n) g 0 _).heap ++ os).size
        rw [Array.size_append]; omega
      have hosw : (sortWorldK encChord 2 w g 0 n (l0.mergeSort fun x y => !chordLt y x).toArray os).os = w.os ∧ (sortWorldK encChord 2 w g 0 n (l0.mergeSort fun x y => !chordLt y x).toArray os).tape = w.tape ∧ (sortWorldK encChord 2 w g 0 n (l0.mergeSort fun x y => !chordLt y x).toArray os).output = w.output := ⟨rfl, rfl, rfl⟩
      generalize sortWorldK encChord 2 w g 0 n (l0.mergeSort fun x y => !chordLt y x).toArray os = W1 at *
      have hb1 : W1.heap[g]? = some (.cells c1 52 (0, 0)) := by rw [hgrow g hlt]; exact k1a
      obtain ⟨f2a, f2b⟩ := putRowK_frame W1 g q (ordL l0 ++ List.replicate (l0.length - (ordL l0).length) z52).toArray
      obtain ⟨c2, k2a, k2b, k2c⟩ := putRowK_block (q := q) (d := (ordL l0 ++ List.replicate (l0.length - (ordL l0).length) z52).toArray) hb1 (by simp; omega)
      refine ⟨_, rfl, chord_leave k2a hbase (by omega) hmax rfl (by omega) (.inl hP) (fun t ht => ?_), ⟨?_, ?_, ?_, ?_, ?_⟩, ?_, ?_⟩
      · rw [k2c t (by simp; omega)]
        have e : (ordL l0 ++ List.replicate (l0.length - (ordL l0).length) z52).toArray[t / 2]! = (ordL l0)[t / 2]! := by
          rw [getElem!_pos _ _ (by simp; omega), getElem!_pos (ordL l0) (t / 2) (by omega)]
          simp only [List.getElem_toArray]
          rw [List.getElem_append_left (by omega)]
        rw [e]
      · exact hosw.1.trans hB.os
      · exact hosw.2.1.trans hB.tape
      · exact hosw.2.2.trans hB.output
      · rw [f2a]; exact Nat.le_trans hB.size hsz1
      · intro k hk
        have hkw : k < w.heap.size := Nat.lt_of_lt_of_le hk hB.size
        rw [f2b k (by omega), hgrow k hkw, f1b k (by omega)]
        exact hB.block k hk
      · rw [f2a]; exact hsz1
      · intro i hi hnP
        have hne : i ≠ g := fun e => hnP (e ▸ hP)
        rw [f2b i hne, hgrow i hi, f1b i hne]
  · rw [if_neg hlen] at h
    cases h
end

end Go.Proofs.Ytoajjbkcilmnmaa.X
