/- What the statement FnStarsString needs, part 5 of 6: words, contracts and lemmas, cut to what is named. Written by a program of this work (wip/tools/gpack.py) out of its texts and the print's. -/
import Derived.Test.YthmhfagnenoibaaGreatDoorZFnStarsString3
import Derived.Laws.Bits64b
import Derived.Shelf.RegionOpenPlain
import Derived.Lib.Strings
set_option linter.unusedVariables false
set_option linter.unusedSimpArgs false
section
namespace Go.Proofs.YthmhfagnenoibaaGreatDoor.X
open Go.RowKit Go.Proofs.YthmhfagnenoibaaGreatDoorW.PrintWords Go.Proofs.YthmhfagnenoibaaGreatDoorW.PrintLast Go.Proofs.YthmhfagnenoibaaGreatDoorW.PrintMore
attribute [local go_sem] max2_int min2_int max_two min_two max_three min_three max_four min_four
set_option linter.unusedVariables false
set_option linter.unusedSimpArgs false
def Cur (w0 w : World) (g N : Nat) : Prop := ∃ (A : Option Addr) (c : Nat) (l : List Int) (at_ sd : Int), w.heap[g]? = some (.cells #[.slice A l.length c, .int .i64 at_, .int .u64 sd] 71 (0, 0)) ∧ w0.heap.size ≤ g ∧ Kd.C (Kd.int .u8) w0 A l.length l ∧ (∀ i : Int, 0 ≤ i → i < l.length → 0 ≤ rd l i ∧ rd l i ≤ 255) ∧ 0 ≤ at_ ∧ at_ ≤ N
def DrawsInt (P : Int → Prop) (w0 w : World) (g N : Nat) (e : Ending) (w' : World) : Prop := ∃ r : Int, e = .returned (.int .i64 r) ∧ P r ∧ Cur w0 w' g N ∧ Below w0.heap.size w0 w' ∧ KeepBut w w' g none
theorem bits_and_255 (x : Int) (h0 : 0 ≤ x) (h1 : x < 18446744073709551616) : 0 ≤ Go.bits .and .u64 x 255 ∧ Go.bits .and .u64 x 255 ≤ 255 := by
  have h := bits_and_u64_nat x.toNat 255 (by omega) (by omega)
  rw [Int.toNat_of_nonneg h0] at h
  have h2 : ((255 : Nat) : Int) = 255 := rfl
  rw [h2] at h
  rw [h]
  have := Nat.and_le_right (n := x.toNat) (m := 255)
  exact ⟨Int.natCast_nonneg _, by omega⟩
theorem draw_small (y : Int) : 0 ≤ wrap64 (Go.bits .and .u64 (IntKind.u64.wrap y / 1099511627776) 255) ∧ wrap64 (Go.bits .and .u64 (IntKind.u64.wrap y / 1099511627776) 255) ≤ 255 := by
  have h : 0 ≤ IntKind.u64.wrap y ∧ IntKind.u64.wrap y < 18446744073709551616 := by rw [IntKind.wrap_u64]; omega
  have := bits_and_255 (IntKind.u64.wrap y / 1099511627776) (by omega) (by omega)
  unfold wrap64
  omega
set_option maxHeartbeats 2000000 in
set_option maxRecDepth 100000 in
theorem next_calls (w0 w : World) (g N : Nat) (hC : Cur w0 w g N) (hB : Below w0.heap.size w0 w) (hN : N ≤ 1000000) :
    Calls Tryz.prog 76 #[.pointer (some ⟨g, 0, none⟩)] w (DrawsInt (fun r => 0 ≤ r ∧ r ≤ 255) w0 w g (N + 1)) := by
  obtain ⟨A, c, l, at_, sd, hg, hge, hl, hr, h0, h1⟩ := hC
  have HG := Aside0.mk hg
  have HL := Aside0.mk hl
  have HB := Aside0.mk hB
  have HR := Aside0.mk hr
  have hc0 : w.cell? ⟨g, 0, none⟩ = some (.slice A l.length c) := (blk_cell hg 0).trans rfl
  have hc1 : w.cell? ⟨g, 1, none⟩ = some (.int .i64 at_) := (blk_cell hg 1).trans rfl
  have hc2 : w.cell? ⟨g, 2, none⟩ = some (.int .u64 sd) := (blk_cell hg 2).trans rfl
  have hf1 := blk_frozen hg 1
  have hf2 := blk_frozen hg 2
  clear hg hl hB hr
  have hmax := Kd.C_max HL.out
  go_enter Tryz.func76, Tryz.ntmps76
  go_wp2
  by_cases hlt : at_ < l.length
  · have b0 : decide (at_ < (l.length : Int)) = true := decide_eq_true hlt
    have b1 : decide (at_ + 1 ≤ (l.length : Int)) = true := decide_eq_true (by omega)
    obtain ⟨ad, e, hx⟩ := Kd.at_int HL.out at_ h0 hlt
    subst e
    have hx2 := pw_cell_below HB.out hx
    obtain ⟨r0, r1⟩ := HR.out at_ h0 hlt
    generalize rd l at_ = x at hx hx2 r0 r1
    clear hx
    repeat (go_quiet (fail); try go_wp2)
    go_ret
    exact ⟨_, rfl, ⟨r0, r1⟩, ⟨_, c, l, at_ + 1, _, by (with_reducible repeat (first | refine blk_drewN ?_ _ | refine blk_drew ?_)); refine blk_put (cs := #[_, .int .i64 (at_ + 1), .int .u64 sd]) ?_ 2 _ rfl; refine blk_put (cs := #[_, .int .i64 at_, .int .u64 sd]) ?_ 1 _ rfl; (with_reducible repeat (first | refine blk_drewN ?_ _ | refine blk_drew ?_)); exact HG.out, hge, HL.out, HR.out, by omega, by omega⟩, by repeat (first | exact HB.out | apply pw_below_drewN | refine below_set ?_ hge), by repeat (first | exact KeepBut.refl w g none | apply keep_drewN | apply KeepBut.set_)⟩
  · have b0 : decide (at_ < (l.length : Int)) = false := decide_eq_false hlt
    have b1 : decide (at_ + 1 ≤ (l.length : Int)) = false := decide_eq_false (by omega)
    repeat (go_quiet (fail); try go_wp2)
    go_ret
    exact ⟨_, rfl, draw_small _, ⟨_, c, l, at_ + 1, _, by (with_reducible repeat (first | refine blk_drewN ?_ _ | refine blk_drew ?_)); refine blk_put (cs := #[_, .int .i64 (at_ + 1), .int .u64 sd]) ?_ 2 _ rfl; refine blk_put (cs := #[_, .int .i64 at_, .int .u64 sd]) ?_ 1 _ rfl; (with_reducible repeat (first | refine blk_drewN ?_ _ | refine blk_drew ?_)); exact HG.out, hge, HL.out, HR.out, by omega, by omega⟩, by repeat (first | exact HB.out | apply pw_below_drewN | refine below_set ?_ hge), by repeat (first | exact KeepBut.refl w g none | apply keep_drewN | apply KeepBut.set_)⟩
theorem Cur.up {w0 w : World} {g N N' : Nat} (h : Cur w0 w g N) (hN : N ≤ N') : Cur w0 w g N' := by
  obtain ⟨A, c, l, at_, sd, hg, hge, hl, hr, h0, h1⟩ := h
  exact ⟨A, c, l, at_, sd, hg, hge, hl, hr, h0, by omega⟩
def Picked (n r : Int) : Prop := 0 ≤ r ∧ (1 ≤ n → r < n) ∧ (n ≤ 1 → r = 0)
set_option maxHeartbeats 2000000 in
set_option maxRecDepth 100000 in
theorem pick_calls (w0 w : World) (g N : Nat) (n : Int) (hC : Cur w0 w g N) (hB : Below w0.heap.size w0 w) (hN : N ≤ 900000) :
    Calls Tryz.prog 57 #[.pointer (some ⟨g, 0, none⟩), .int .i64 n] w (DrawsInt (Picked n) w0 w g (N + 2)) := by
  have HC := Aside0.mk hC
  have HB := Aside0.mk hB
  clear hC hB
  go_enter Tryz.func57, Tryz.ntmps57
  by_cases h1 : n ≤ 1
  · have b0 : decide (n ≤ 1) = true := decide_eq_true h1
    go_wp2
    go_ret
    exact ⟨0, rfl, ⟨Int.le_refl _, fun h => by omega, fun _ => rfl⟩, HC.out.up (by omega), HB.out, KeepBut.refl w g none⟩
  · have b0 : decide (n ≤ 1) = false := decide_eq_false h1
    go_wp2_with fail
    refine (next_calls w0 _ g N HC.out HB.out (by omega)).mono ?_
    rintro e w1 ⟨x, rfl, ⟨hx0, hx1⟩, hC1, hB1, hK1⟩
    have HC1 := Aside0.mk hC1
    have HB1 := Aside0.mk hB1
    have HK1 := Aside0.mk hK1
    clear hC1 hB1 hK1 HC HB
    have b1 : (n == 0) = false := beq_eq_false_iff_ne.2 (by omega)
    by_cases h2 : n > 200
    · have b2 : decide (n > 200) = true := decide_eq_true h2
      go_wp2_with fail
      refine (next_calls w0 _ g (N + 1) HC1.out HB1.out (by omega)).mono ?_
      rintro e w2 ⟨y, rfl, ⟨hy0, hy1⟩, hC2, hB2, hK2⟩
      have HC2 := Aside0.mk hC2
      have HB2 := Aside0.mk hB2
      have HK2 := Aside0.mk (HK1.out.trans hK2 (.inl rfl))
      clear hC2 hB2 hK2 HC1 HB1 HK1
      go_wp2
      go_ret
      exact ⟨_, rfl, ⟨Int.emod_nonneg _ (by omega), fun _ => Int.emod_lt_of_pos _ (by omega), fun h => by omega⟩, HC2.out.up (by omega), HB2.out, HK2.out⟩
    · have b2 : decide (n > 200) = false := decide_eq_false h2
      go_wp2
      go_ret
      exact ⟨_, rfl, ⟨Int.emod_nonneg _ (by omega), fun _ => Int.emod_lt_of_pos _ (by omega), fun h => by omega⟩, HC1.out.up (by omega), HB1.out, HK1.out⟩
def DrawsBool (w0 w : World) (g N : Nat) (e : Ending) (w' : World) : Prop := ∃ r : Bool, e = .returned (.bool r) ∧ Cur w0 w' g N ∧ Below w0.heap.size w0 w' ∧ KeepBut w w' g none
set_option maxHeartbeats 2000000 in
theorem one_calls (w0 w : World) (g N : Nat) (n : Int) (hC : Cur w0 w g N) (hB : Below w0.heap.size w0 w) (hN : N ≤ 900000) :
    Calls Tryz.prog 63 #[.pointer (some ⟨g, 0, none⟩), .int .i64 n] w (DrawsBool w0 w g (N + 2)) := by
  have HC := Aside0.mk hC
  have HB := Aside0.mk hB
  clear hC hB
  go_enter Tryz.func63, Tryz.ntmps63
  go_wp2_with fail
  refine (pick_calls w0 _ g N n HC.out HB.out hN).mono ?_
  rintro e w1 ⟨x, rfl, _, hC1, hB1, hK1⟩
  have HC1 := Aside0.mk hC1
  have HB1 := Aside0.mk hB1
  have HK1 := Aside0.mk hK1
  clear hC1 hB1 hK1 HC HB
  go_wp2
  go_ret
  exact ⟨_, rfl, HC1.out, HB1.out, HK1.out⟩
theorem rd_mem' (l : List Int) (j : Int) (h0 : 0 ≤ j) (h : j < l.length) : rd l j ∈ l := by
  unfold rd
  rw [List.getD_eq_getElem?_getD, List.getElem?_eq_getElem (by omega), Option.getD_some]
  exact List.getElem_mem _
set_option maxHeartbeats 2000000 in
theorem among_calls (w0 w : World) (g N : Nat) (A : Option Addr) (l : List Int) (hC : Cur w0 w g N) (hB : Below w0.heap.size w0 w) (hN : N ≤ 900000) (hl : Kd.C (Kd.int .i64) w A l.length l) (hA : ∀ ad, A = some ad → ad.block ≠ g) (h0 : 0 < l.length) :
    Calls Tryz.prog 60 #[.pointer (some ⟨g, 0, none⟩), .slice A l.length l.length] w (DrawsInt (· ∈ l) w0 w g (N + 2)) := by
  have HC := Aside0.mk hC
  have HB := Aside0.mk hB
  have HL := Aside0.mk hl
  have HA := Aside0.mk hA
  have hmax := Kd.C_max hl
  clear hC hB hl hA
  go_enter Tryz.func60, Tryz.ntmps60
  go_wp2_with fail
  refine (pick_calls w0 _ g N l.length HC.out HB.out hN).mono ?_
  rintro e w1 ⟨x, rfl, ⟨hx0, hx1, _⟩, hC1, hB1, hK1⟩
  replace hx1 := hx1 (by omega)
  obtain ⟨ad, hAe, hx⟩ := Kd.at_int HL.out x hx0 hx1
  subst hAe
  have hm := rd_mem' l x hx0 hx1
  have hx2 := keep_cell hK1 hx (by rw [add_block]; exact HA.out ad rfl)
  have HC1 := Aside0.mk hC1
  have HB1 := Aside0.mk hB1
  have HK1 := Aside0.mk hK1
  generalize rd l x = y at hx hx2 hm
  have HM := Aside0.mk hm
  clear hC1 hB1 hK1 HC HB hx hm
  go_wp2
  go_ret
  exact ⟨_, rfl, HM.out, HC1.out, HB1.out, HK1.out⟩
theorem lit_C (W : World) (e : Nat) (l : List Int) (h1 : l.length ≤ 1000) : Kd.C (Kd.int .i64) (W.alloc (.cells (nums .i64 l).toArray e (0, 0))) (some ⟨W.heap.size, 0, none⟩) l.length l := by
  refine Kd.C_of_reads (d := (0 : Int)) ⟨rfl, by omega, fun _ => ⟨_, rfl, fun j hj => ?_⟩⟩
  rw [add_plain, blk_cell (blk_new W _) j, List.getD_eq_getElem?_getD, List.getElem?_eq_getElem hj, List.getElem?_toArray, nums, List.getElem?_map, List.getElem?_eq_getElem hj]
  rfl
theorem among_lit (w0 w : World) (g N e : Nat) (l : List Int) (hC : Cur w0 w g N) (hB : Below w0.heap.size w0 w) (hN : N ≤ 900000) (h0 : 0 < l.length) (h1 : l.length ≤ 1000) :
    Calls Tryz.prog 60 #[.pointer (some ⟨g, 0, none⟩), .slice (some ⟨w.heap.size, 0, none⟩) l.length l.length] (w.alloc (.cells (nums .i64 l).toArray e (0, 0))) (DrawsInt (· ∈ l) w0 w g (N + 2)) := by
  have hg : g < w.heap.size := by
    obtain ⟨A, c, l, at_, sd, hg, _⟩ := hC
    exact blk_lt hg
  have hC' : Cur w0 (w.alloc (.cells (nums .i64 l).toArray e (0, 0))) g N := by
    obtain ⟨A, c, l, at_, sd, hg, r⟩ := hC
    exact ⟨A, c, l, at_, sd, blk_alloc hg _, r⟩
  refine (among_calls w0 _ g N _ l hC' (below_alloc hB _) hN ?_ (fun ad h => by cases h; exact Nat.ne_of_gt hg) h0).mono ?_
  · exact lit_C w e l h1
  · rintro e w1 ⟨x, rfl, hm, hC1, hB1, hK1⟩
    exact ⟨x, rfl, hm, hC1, hB1, (keep_alloc (KeepBut.refl w g none) _).trans hK1 (.inl rfl)⟩
def starPs : List Int := [0, -1, 2, 3, 60, 61, 4611686018427387904]
def starSs : List Int := [0, 1, 2, 30, -1, 59, 60]
def StarDom (p s : Int) : Prop := (p ∈ starPs ∧ s ∈ starSs) ∨ (3 ≤ p ∧ p ≤ 14 ∧ 1 ≤ s ∧ s < p)
def DrawsStar (P : Int → Int → Prop) (w0 w : World) (g N : Nat) (e : Ending) (w' : World) : Prop := ∃ p s : Int, e = .returned (.agg #[.int .i64 p, .int .i64 s]) ∧ P p s ∧ Cur w0 w' g N ∧ Below w0.heap.size w0 w' ∧ KeepBut w w' g none
theorem blk_two {w : World} {g : Nat} {t : TypeId} {x y : Value} (h : w.heap[g]? = some (.cells #[x, y] t (0, 0))) (a b : Value) : ((w.setCell ⟨g, 0, none⟩ a).setCell ⟨g, 1, none⟩ b).heap[g]? = some (.cells #[a, b] t (0, 0)) := blk_put (blk_put h 0 a rfl) 1 b rfl
theorem Cur.lt {w0 w : World} {g N : Nat} (h : Cur w0 w g N) : g < w.heap.size := by
  obtain ⟨A, c, l, at_, sd, hg, _⟩ := h
  exact blk_lt hg
theorem Cur.alloc {w0 w : World} {g N : Nat} (h : Cur w0 w g N) (o : Obj) : Cur w0 (w.alloc o) g N := by
  obtain ⟨A, c, l, at_, sd, hg, r⟩ := h
  exact ⟨A, c, l, at_, sd, blk_alloc hg _, r⟩
theorem Cur.far {w0 w : World} {g N b j : Nat} (h : Cur w0 w g N) (hb : g ≠ b) (v : Value) : Cur w0 (w.setCell ⟨b, j, none⟩ v) g N := by
  obtain ⟨A, c, l, at_, sd, hg, r⟩ := h
  exact ⟨A, c, l, at_, sd, blk_far hg hb _, r⟩
theorem Cur.drewN {w0 w : World} {g N : Nat} (h : Cur w0 w g N) (n : Nat) : Cur w0 (w.drewN n) g N := h
theorem keep_box {w W : World} {g b : Nat} {o : Obj} (hk : KeepBut w W g none) (h : w.heap[b]? = some o) (hb : b ≠ g) : W.heap[b]? = some o := hk.blk h hb (by simp)
set_option maxHeartbeats 2000000 in
theorem sureStar_calls (w0 w : World) (g N : Nat) (hC : Cur w0 w g N) (hB : Below w0.heap.size w0 w) (hN : N ≤ 800000) :
    Calls Tryz.prog 62 #[.pointer (some ⟨g, 0, none⟩)] w (DrawsStar (fun p s => 3 ≤ p ∧ p ≤ 14 ∧ 1 ≤ s ∧ s < p) w0 w g (N + 4)) := by
  have HC := Aside0.mk hC
  have HB := Aside0.mk hB
  have hgb := Nat.ne_of_gt hC.lt
  have hsz := hB.size
  clear hC hB
  go_enter Tryz.func62, Tryz.ntmps62
  go_wp2_with fail
  refine (pick_calls w0 _ g N 12 (HC.out.alloc _) (below_alloc HB.out _) (by omega)).mono ?_
  rintro e w1 ⟨x, rfl, ⟨hx0, hx1, _⟩, hC1, hB1, hK1⟩
  replace hx1 := hx1 (by omega)
  have HC1 := Aside0.mk hC1
  have HB1 := Aside0.mk hB1
  have HK1 := Aside0.mk ((keep_alloc (KeepBut.refl w g none) _).trans hK1 (.inl rfl))
  have BK1 := Aside0.mk (keep_box hK1 (blk_new w _) hgb)
  clear hC1 hB1 hK1 HC HB
  go_wp2_with fail
  refine (pick_calls w0 _ g (N + 2) (3 + x - 1) HC1.out HB1.out (by omega)).mono ?_
  rintro e w2 ⟨y, rfl, ⟨hy0, hy1, _⟩, hC2, hB2, hK2⟩
  replace hy1 := hy1 (by omega)
  have HC2 := Aside0.mk hC2
  have HB2 := Aside0.mk hB2
  have HK2 := Aside0.mk (HK1.out.trans hK2 (.inl rfl))
  have BK2 := Aside0.mk (keep_box hK2 BK1.out hgb)
  clear hC2 hB2 hK2 HC1 HB1 HK1 BK1
  have hc0 : w2.cell? ⟨w.heap.size, 0, none⟩ = some (.int .i64 0) := (blk_cell BK2.out 0).trans rfl
  have hc1 : w2.cell? ⟨w.heap.size, 1, none⟩ = some (.int .i64 0) := (blk_cell BK2.out 1).trans rfl
  have hf0 := blk_frozen BK2.out 0
  have hf1 := blk_frozen BK2.out 1
  go_wp2
  refine bodyPost_ret (results_cell_row rfl _ _ w.heap.size 25 #[.int .i64 (3 + x), .int .i64 (1 + y)] (0, 0) _ rfl (blk_two BK2.out _ _) Tryz.underlying25 rfl (by kernel_rfl)) rfl ?_
  exact ⟨_, _, rfl, by omega, (HC2.out.far hgb.symm _).far hgb.symm _, below_set (below_set HB2.out (by have := HB2.out.size; omega)) (by omega), keep_far (keep_far HK2.out (Nat.le_refl _) _) (Nat.le_refl _) _⟩
set_option maxHeartbeats 2000000 in
theorem star_calls (w0 w : World) (g N : Nat) (hC : Cur w0 w g N) (hB : Below w0.heap.size w0 w) (hN : N ≤ 700000) :
    Calls Tryz.prog 66 #[.pointer (some ⟨g, 0, none⟩)] w (DrawsStar StarDom w0 w g (N + 6)) := by
  have HC := Aside0.mk hC
  have HB := Aside0.mk hB
  have hgb := Nat.ne_of_gt hC.lt
  have hsz := hB.size
  clear hC hB
  go_enter Tryz.func66, Tryz.ntmps66
  go_wp2_with fail
  refine (one_calls w0 _ g N 12 (HC.out.alloc _) (below_alloc HB.out _) (by omega)).mono ?_
  rintro e w1 ⟨z, rfl, hC1, hB1, hK1⟩
  have HC1 := Aside0.mk hC1
  have HB1 := Aside0.mk hB1
  have HK1 := Aside0.mk ((keep_alloc (KeepBut.refl w g none) _).trans hK1 (.inl rfl))
  have BK1 := Aside0.mk (keep_box hK1 (blk_new w _) hgb)
  clear hC1 hB1 hK1 HC HB
  cases z with
  | true =>
    go_wp2_with fail
    refine (among_lit w0 w1 g (N + 2) 3 starPs HC1.out HB1.out (by omega) (by decide) (by decide)).mono ?_
    rintro e w2 ⟨x, rfl, hx, hC2, hB2, hK2⟩
    have HC2 := Aside0.mk hC2
    have HB2 := Aside0.mk hB2
    have HX := Aside0.mk hx
    have HK2 := Aside0.mk (HK1.out.trans hK2 (.inl rfl))
    have BK2 := Aside0.mk (keep_box hK2 BK1.out hgb)
    clear hC2 hB2 hK2 hx HC1 HB1 HK1 BK1
    go_wp2_with fail
    refine (among_lit w0 w2 g (N + 4) 3 starSs HC2.out HB2.out (by omega) (by decide) (by decide)).mono ?_
    rintro e w3 ⟨y, rfl, hy, hC3, hB3, hK3⟩
    have HC3 := Aside0.mk hC3
    have HB3 := Aside0.mk hB3
    have HY := Aside0.mk hy
    have HK3 := Aside0.mk (HK2.out.trans hK3 (.inl rfl))
    have BK3 := Aside0.mk (keep_box hK3 BK2.out hgb)
    clear hC3 hB3 hK3 hy HC2 HB2 HK2 BK2
    have hc0 : w3.cell? ⟨w.heap.size, 0, none⟩ = some (.int .i64 0) := (blk_cell BK3.out 0).trans rfl
    have hc1 : w3.cell? ⟨w.heap.size, 1, none⟩ = some (.int .i64 0) := (blk_cell BK3.out 1).trans rfl
    have hf0 := blk_frozen BK3.out 0
    have hf1 := blk_frozen BK3.out 1
    go_wp2
    refine bodyPost_ret (results_cell_row rfl _ _ w.heap.size 25 #[.int .i64 x, .int .i64 y] (0, 0) _ rfl (blk_two BK3.out _ _) Tryz.underlying25 rfl (by kernel_rfl)) rfl ?_
    exact ⟨_, _, rfl, .inl ⟨HX.out, HY.out⟩, (HC3.out.far hgb.symm _).far hgb.symm _, below_set (below_set HB3.out (by omega)) (by omega), keep_far (keep_far HK3.out (Nat.le_refl _) _) (Nat.le_refl _) _⟩
  | false =>
    go_wp2_with fail
    refine (sureStar_calls w0 _ g (N + 2) HC1.out HB1.out (by omega)).mono ?_
    rintro e w2 ⟨x, y, rfl, hxy, hC2, hB2, hK2⟩
    have HC2 := Aside0.mk hC2
    have HB2 := Aside0.mk hB2
    have HX := Aside0.mk hxy
    have HK2 := Aside0.mk (HK1.out.trans hK2 (.inl rfl))
    have BK2 := Aside0.mk (keep_box hK2 BK1.out hgb)
    clear hC2 hB2 hK2 hxy HC1 HB1 HK1 BK1
    have hc0 : w2.cell? ⟨w.heap.size, 0, none⟩ = some (.int .i64 0) := (blk_cell BK2.out 0).trans rfl
    have hc1 : w2.cell? ⟨w.heap.size, 1, none⟩ = some (.int .i64 0) := (blk_cell BK2.out 1).trans rfl
    have hf0 := blk_frozen BK2.out 0
    have hf1 := blk_frozen BK2.out 1
    go_wp2
    refine bodyPost_ret (results_cell_row rfl _ _ w.heap.size 25 #[.int .i64 x, .int .i64 y] (0, 0) _ rfl (blk_two BK2.out _ _) Tryz.underlying25 rfl (by kernel_rfl)) rfl ?_
    exact ⟨_, _, rfl, .inr HX.out, (HC2.out.far hgb.symm _).far hgb.symm _, below_set (below_set HB2.out (by omega)) (by omega), keep_far (keep_far HK2.out (Nat.le_refl _) _) (Nat.le_refl _) _⟩
end Go.Proofs.YthmhfagnenoibaaGreatDoor.X
end
section
namespace Go.Proofs.YthmhfagnenoibaaGreatDoor.X
open Go.RowKit Go.Proofs.YthmhfagnenoibaaGreatDoorW.PrintWords Go.Proofs.YthmhfagnenoibaaGreatDoorW.PrintLast Go.Proofs.YthmhfagnenoibaaGreatDoorW.PrintMore
attribute [local go_sem] max2_int min2_int max_two min_two max_three min_three max_four min_four
set_option linter.unusedVariables false
set_option linter.unusedSimpArgs false
def goodB (p s : Int) : Bool := decide (3 ≤ p ∧ p ≤ 60 ∧ 1 ≤ s ∧ s ≤ p - 1)
theorem srGood_calls (p s : Int) (w : World) : Calls Tryz.prog 40 #[.agg #[.int .i64 p, .int .i64 s]] w fun e w' => e = .returned (.bool (goodB p s)) ∧ Below w.heap.size w w' := by
  have h : spec_srGood.f p s = some (goodB p s) := by
    unfold spec_srGood.f spec_srPoints.f spec_l1In.f goodB
    by_cases h1 : p ≥ 3
    · by_cases h2 : p ≤ 60
      · rw [if_pos h1, Option.bind_some, Option.bind_some, if_pos (by simpa using h2)]
        have hw : wrap64 (p - 1) = p - 1 := by unfold wrap64; omega
        rw [hw]
        by_cases h3 : s ≥ 1
        · rw [if_pos h3]
          simp only [Option.bind_some, Option.some.injEq, decide_eq_decide]
          omega
        · rw [if_neg h3]
          simp only [Option.bind_some, Option.some.injEq]
          exact (decide_eq_false (by omega)).symm
      · rw [if_pos h1, Option.bind_some, Option.bind_some, if_neg (by simpa using h2)]
        exact congrArg some (decide_eq_false (by omega)).symm
    · rw [if_neg h1, Option.bind_some, Option.bind_some, if_neg (by simp)]
      exact congrArg some (decide_eq_false (by omega)).symm
  exact spec_srGood.calls p s _ w h
def PtDom (p s x : Int) : Prop := x ∈ [-1, 0, 1, p, 4611686018427387904] ∨ (goodB p s = true ∧ 0 ≤ x ∧ x < p)
def DrawsPointed (w0 w : World) (g N : Nat) (e : Ending) (w' : World) : Prop := ∃ p s x : Int, e = .returned (.tuple #[.agg #[.int .i64 p, .int .i64 s], .int .i64 x]) ∧ StarDom p s ∧ PtDom p s x ∧ Cur w0 w' g N ∧ Below w0.heap.size w0 w' ∧ KeepBut w w' g none
theorem Cur.drew {w0 w : World} {g N : Nat} (h : Cur w0 w g N) : Cur w0 w.drew g N := h
theorem keep_below {w W w1 : World} {g : Nat} (h : KeepBut w W g none) (hb : Below W.heap.size W w1) : KeepBut w w1 g none := h.trans (KeepBut.of_below hb g none) (.inl rfl)
theorem Cur.below {w0 w w1 : World} {g N : Nat} (h : Cur w0 w g N) (hb : Below w.heap.size w w1) : Cur w0 w1 g N := by
  obtain ⟨A, c, l, at_, sd, hg, r⟩ := h
  exact ⟨A, c, l, at_, sd, blk_below hg hb, r⟩
theorem StarDom.wf {p s : Int} (h : StarDom p s) : -9223372036854775808 ≤ p ∧ p ≤ 4611686018427387904 ∧ -1 ≤ p := by
  rcases h with ⟨h, _⟩ | h
  · simp only [starPs, List.mem_cons, List.not_mem_nil, or_false] at h
    omega
  · omega
set_option maxHeartbeats 4000000 in
set_option maxRecDepth 100000 in
theorem pointed_calls (w0 w : World) (g N : Nat) (hC : Cur w0 w g N) (hB : Below w0.heap.size w0 w) (hN : N ≤ 600000) :
    Calls Tryz.prog 56 #[.pointer (some ⟨g, 0, none⟩)] w (DrawsPointed w0 w g (N + 10)) := by
  have HC := Aside0.mk hC
  have HB := Aside0.mk hB
  have hgb := Nat.ne_of_gt hC.lt
  have hsz := hB.size
  clear hC hB
  go_enter Tryz.func56, Tryz.ntmps56
  go_wp2_with fail
  refine (star_calls w0 _ g N (HC.out.alloc _) (below_alloc HB.out _) (by omega)).mono ?_
  rintro e w1 ⟨p, s, rfl, hd, hC1, hB1, hK1⟩
  have HC1 := Aside0.mk hC1
  have HB1 := Aside0.mk hB1
  have HD := Aside0.mk hd
  have HK1 := Aside0.mk ((keep_alloc (KeepBut.refl w g none) _).trans hK1 (.inl rfl))
  have BK1 := Aside0.mk (keep_box hK1 (blk_new w _) hgb)
  have hgb1 := Nat.ne_of_gt hC1.lt
  have hs1 : w.heap.size < w1.heap.size := blk_lt BK1.out
  clear hC1 hB1 hK1 HC HB hd
  have hc0 : (w1.alloc (.cells #[.int .i64 p, .int .i64 s] 25 (0, 0))).cell? ⟨w1.heap.size, 0, none⟩ = some (.int .i64 p) := (blk_cell (blk_new w1 _) 0).trans rfl
  go_wp2_with fail
  refine (srGood_calls p s _).mono ?_
  rintro e w2 ⟨rfl, hb⟩
  have BK2 := Aside0.mk (blk_below (blk_alloc BK1.out _) hb)
  have BS2 := Aside0.mk (blk_below (blk_new w1 (.cells #[.int .i64 p, .int .i64 s] 25 (0, 0))) hb)
  have HC2 := Aside0.mk ((HC1.out.alloc _).below hb)
  have HB2 := Aside0.mk (below_step (below_alloc HB1.out _) hb)
  have HK2 := Aside0.mk (keep_below (keep_alloc HK1.out _) hb)
  clear hb BK1 HC1 HB1 HK1 hc0
  have HP := StarDom.wf HD.out
  cases hG : goodB p s with
  | false =>
    have HG := Aside0.mk hG
    clear hG
    have hc0 : w2.cell? ⟨w1.heap.size, 0, none⟩ = some (.int .i64 p) := (blk_cell BS2.out 0).trans rfl
    have hc1 : w2.cell? ⟨w1.heap.size, 1, none⟩ = some (.int .i64 s) := (blk_cell BS2.out 1).trans rfl
    have mixed : Tryz.prog.follows Departure.mixedOrders = true := by kernel_rfl
    go_wp2_with fail
    refine start_ (n := 8) (S := fun w' => w'.cell? ⟨w1.heap.size, 0, none⟩ = some (.int .i64 p) ∧ w'.cell? ⟨w1.heap.size, 1, none⟩ = some (.int .i64 s)) (ds := [6]) #[false, false, false, false, false, false, false, false] (by kernel_rfl) rfl rfl ⟨(blk_cell BS2.out 0), (blk_cell BS2.out 1)⟩ (fun hHeld => ?_)
    refine pure_ (i := 1) (N := some 15) (v := ?_) (a' := ?_) #[false, true, false, false, false, false, false, false] rfl rfl (by kernel_rfl) (fun _ _ _ h => h) (Or.inl ⟨by rfl, ?_⟩) ?_ ?_
    rotate_left
    · intro w'
      go_simp
      with_reducible rfl
    rotate_left
    · simp only [Act.put, List.setIfInBounds_toArray, List.set_cons_zero, List.set_cons_succ, i64_w, i32_w]
      rfl
    refine pure_ (i := 2) (N := some 16) (v := ?_) (a' := ?_) #[false, true, true, false, false, false, false, false] rfl rfl (by kernel_rfl) (fun _ _ _ h => h) (Or.inl ⟨by rfl, ?_⟩) ?_ ?_
    rotate_left
    · intro w'
      go_simp
      with_reducible rfl
    rotate_left
    · simp only [Act.put, List.setIfInBounds_toArray, List.set_cons_zero, List.set_cons_succ, i64_w, i32_w]
      rfl
    refine take_ (i := 0) (N := some 14) (v := ?_) (a' := ?_) #[true, true, true, false, false, false, false, false] rfl rfl (by kernel_rfl) (fun _ _ _ h => h) (Or.inl ⟨by rfl, ?_⟩) hHeld ?_ ?_
    rotate_left
    · rintro w' ⟨s0, s1⟩
      go_simp
      with_reducible rfl
    rotate_left
    · simp only [Act.put, List.setIfInBounds_toArray, List.set_cons_zero, List.set_cons_succ, i64_w, i32_w]
      rfl
    refine take_ (i := 3) (N := some 17) (v := ?_) (a' := ?_) #[true, true, true, true, false, false, false, false] rfl rfl (by kernel_rfl) (fun _ _ _ h => h) (Or.inl ⟨by rfl, ?_⟩) hHeld ?_ ?_
    rotate_left
    · rintro w' ⟨s0, s1⟩
      go_simp
      with_reducible rfl
    rotate_left
    · simp only [Act.put, List.setIfInBounds_toArray, List.set_cons_zero, List.set_cons_succ, i64_w, i32_w]
      rfl
    refine one_ (i := 4) (N := some 18) #[true, true, true, true, true, false, false, false] rfl rfl (by kernel_rfl) (by decide) (fun K hK => ?_)
    refine value_ (w1 := ?_) (v := ?_) (by rfl) rfl ?_ ?_
    rotate_left 2
    · go_simp
      constructor
      · rfl
      · rfl
    refine hK.out _ _ ⟨(blk_cell (blk_alloc (blk_drew BS2.out) _) 0), (blk_cell (blk_alloc (blk_drew BS2.out) _) 1)⟩ (fun hHeld => ?_)
    clear hK K
    refine norm_ (a' := ?_) ?_ ?_
    rotate_left
    · show Act.put _ (some 18) _ = _
      simp only [Act.put, List.setIfInBounds_toArray, List.set_cons_zero, List.set_cons_succ, i64_w, i32_w]
      rfl
    refine one_ (i := 5) (N := some 19) #[true, true, true, true, true, true, false, false] rfl rfl (by kernel_rfl) (by decide) (fun K hK => ?_)
    refine goes_ Tryz.func60 (by kernel_rfl) rfl #[.pointer (some ⟨g, 0, none⟩), .slice (some ⟨w2.drew.heap.size, 0, none⟩) 5 5] (by rfl) rfl rfl (by simp only [List.map_toArray, List.map_cons, List.map_nil]; rfl) ?_
    refine (among_lit w0 w2.drew g (N + 6) 3 [-1, 0, 1, p, 4611686018427387904] (HC2.out.drew.up (by omega)) (below_drew HB2.out) (by omega) (by simp) (by simp)).mono ?_
    rintro e w4 ⟨x, rfl, hx, hC4, hB4, hK4⟩
    refine ⟨_, rfl, ?_⟩
    have BK4 := Aside0.mk (keep_box hK4 (blk_drew BK2.out) hgb)
    have BS4 := Aside0.mk (keep_box hK4 (blk_drew BS2.out) hgb1)
    have HX := Aside0.mk hx
    have HC4 := Aside0.mk hC4
    have HB4 := Aside0.mk hB4
    have HK4 := Aside0.mk ((keep_drew HK2.out).trans hK4 (.inl rfl))
    clear hx hC4 hB4 hK4
    refine hK.out _ _ ⟨(blk_cell BS4.out 0), (blk_cell BS4.out 1)⟩ (fun hHeld => ?_)
    clear hK K
    refine norm_ (a' := ?_) ?_ ?_
    rotate_left
    · show Act.put _ (some 19) _ = _
      simp only [Act.put, List.setIfInBounds_toArray, List.set_cons_zero, List.set_cons_succ, i64_w, i32_w]
      rfl
    refine last_ (i := 6) (N := none) #[true, true, true, true, true, true, true, false] rfl rfl (by kernel_rfl) (by decide) (fun K hK => ?_)
    have k0 : w4.cell? ⟨w.heap.size, 0, none⟩ = some (.int .i64 0) := (blk_cell BK4.out 0).trans rfl
    have k1 : w4.cell? ⟨w.heap.size, 1, none⟩ = some (.int .i64 0) := (blk_cell BK4.out 1).trans rfl
    have f0 := blk_frozen BK4.out 0
    have f1 := blk_frozen BK4.out 1
    refine skip_ (w1 := ?_) (by rfl) rfl ?_ ?_
    rotate_left
    · go_simp
      rfl
    refine hK.out _ _ ?_
    clear hK K
    refine pure_ (i := 7) (N := some 3) (v := ?_) (a' := ?_) #[true, true, true, true, true, true, true, true] rfl rfl (by kernel_rfl) (fun _ _ _ h => h) (Or.inl ⟨by rfl, ?_⟩) ?_ ?_
    rotate_left
    · intro w'
      go_simp
      with_reducible rfl
    rotate_left
    · simp only [Act.put, List.setIfInBounds_toArray, List.set_cons_zero, List.set_cons_succ, i64_w, i32_w]
      rfl
    refine done_ (by kernel_rfl) ?_
    all_goals go_wp2
    all_goals (refine bodyPost_ret (results_ct rfl _ _ w.heap.size 25 #[.int .i64 p, .int .i64 s] (0, 0) _ rfl (blk_two BK4.out _ _) Tryz.underlying25 rfl (by kernel_rfl)) rfl ?_)
    all_goals exact ⟨_, _, _, rfl, HD.out, .inl HX.out, ((HC4.out.far hgb.symm _).far hgb.symm _).up (by omega), below_set (below_set HB4.out (by omega)) (by omega), keep_far (keep_far HK4.out (Nat.le_refl _) _) (Nat.le_refl _) _⟩
  | true =>
    have HG := Aside0.mk hG
    clear hG
    go_wp2_with fail
    refine (one_calls w0 _ g (N + 6) 14 HC2.out HB2.out (by omega)).mono ?_
    rintro e w3 ⟨z, rfl, hC3, hB3, hK3⟩
    have HC3 := Aside0.mk hC3
    have HB3 := Aside0.mk hB3
    have HK3 := Aside0.mk (HK2.out.trans hK3 (.inl rfl))
    have BK3 := Aside0.mk (keep_box hK3 BK2.out hgb)
    have BS3 := Aside0.mk (keep_box hK3 BS2.out hgb1)
    clear hC3 hB3 hK3 HC2 HB2 HK2 BK2 BS2
    cases z with
    | true =>
      have hc0 : w3.cell? ⟨w1.heap.size, 0, none⟩ = some (.int .i64 p) := (blk_cell BS3.out 0).trans rfl
      have hc1 : w3.cell? ⟨w1.heap.size, 1, none⟩ = some (.int .i64 s) := (blk_cell BS3.out 1).trans rfl
      have mixed : Tryz.prog.follows Departure.mixedOrders = true := by kernel_rfl
      go_wp2_with fail
      refine start_ (n := 8) (S := fun w' => w'.cell? ⟨w1.heap.size, 0, none⟩ = some (.int .i64 p) ∧ w'.cell? ⟨w1.heap.size, 1, none⟩ = some (.int .i64 s)) (ds := [6]) #[false, false, false, false, false, false, false, false] (by kernel_rfl) rfl rfl ⟨(blk_cell BS3.out 0), (blk_cell BS3.out 1)⟩ (fun hHeld => ?_)
      refine pure_ (i := 1) (N := some 15) (v := ?_) (a' := ?_) #[false, true, false, false, false, false, false, false] rfl rfl (by kernel_rfl) (fun _ _ _ h => h) (Or.inl ⟨by rfl, ?_⟩) ?_ ?_
      rotate_left
      · intro w'
        go_simp
        with_reducible rfl
      rotate_left
      · simp only [Act.put, List.setIfInBounds_toArray, List.set_cons_zero, List.set_cons_succ, i64_w, i32_w]
        rfl
      refine pure_ (i := 2) (N := some 16) (v := ?_) (a' := ?_) #[false, true, true, false, false, false, false, false] rfl rfl (by kernel_rfl) (fun _ _ _ h => h) (Or.inl ⟨by rfl, ?_⟩) ?_ ?_
      rotate_left
      · intro w'
        go_simp
        with_reducible rfl
      rotate_left
      · simp only [Act.put, List.setIfInBounds_toArray, List.set_cons_zero, List.set_cons_succ, i64_w, i32_w]
        rfl
      refine take_ (i := 0) (N := some 14) (v := ?_) (a' := ?_) #[true, true, true, false, false, false, false, false] rfl rfl (by kernel_rfl) (fun _ _ _ h => h) (Or.inl ⟨by rfl, ?_⟩) hHeld ?_ ?_
      rotate_left
      · rintro w' ⟨s0, s1⟩
        go_simp
        with_reducible rfl
      rotate_left
      · simp only [Act.put, List.setIfInBounds_toArray, List.set_cons_zero, List.set_cons_succ, i64_w, i32_w]
        rfl
      refine take_ (i := 3) (N := some 17) (v := ?_) (a' := ?_) #[true, true, true, true, false, false, false, false] rfl rfl (by kernel_rfl) (fun _ _ _ h => h) (Or.inl ⟨by rfl, ?_⟩) hHeld ?_ ?_
      rotate_left
      · rintro w' ⟨s0, s1⟩
        go_simp
        with_reducible rfl
      rotate_left
      · simp only [Act.put, List.setIfInBounds_toArray, List.set_cons_zero, List.set_cons_succ, i64_w, i32_w]
        rfl
      refine one_ (i := 4) (N := some 18) #[true, true, true, true, true, false, false, false] rfl rfl (by kernel_rfl) (by decide) (fun K hK => ?_)
      refine value_ (w1 := ?_) (v := ?_) (by rfl) rfl ?_ ?_
      rotate_left 2
      · go_simp
        constructor
        · rfl
        · rfl
      refine hK.out _ _ ⟨(blk_cell (blk_alloc (blk_drew BS3.out) _) 0), (blk_cell (blk_alloc (blk_drew BS3.out) _) 1)⟩ (fun hHeld => ?_)
      clear hK K
      refine norm_ (a' := ?_) ?_ ?_
      rotate_left
      · show Act.put _ (some 18) _ = _
        simp only [Act.put, List.setIfInBounds_toArray, List.set_cons_zero, List.set_cons_succ, i64_w, i32_w]
        rfl
      refine one_ (i := 5) (N := some 19) #[true, true, true, true, true, true, false, false] rfl rfl (by kernel_rfl) (by decide) (fun K hK => ?_)
      refine goes_ Tryz.func60 (by kernel_rfl) rfl #[.pointer (some ⟨g, 0, none⟩), .slice (some ⟨w3.drew.heap.size, 0, none⟩) 5 5] (by rfl) rfl rfl (by simp only [List.map_toArray, List.map_cons, List.map_nil]; rfl) ?_
      refine (among_lit w0 w3.drew g (N + 8) 3 [-1, 0, 1, p, 4611686018427387904] (HC3.out.drew.up (by omega)) (below_drew HB3.out) (by omega) (by simp) (by simp)).mono ?_
      rintro e w4 ⟨x, rfl, hx, hC4, hB4, hK4⟩
      refine ⟨_, rfl, ?_⟩
      have BK4 := Aside0.mk (keep_box hK4 (blk_drew BK3.out) hgb)
      have BS4 := Aside0.mk (keep_box hK4 (blk_drew BS3.out) hgb1)
      have HX := Aside0.mk hx
      have HC4 := Aside0.mk hC4
      have HB4 := Aside0.mk hB4
      have HK4 := Aside0.mk ((keep_drew HK3.out).trans hK4 (.inl rfl))
      clear hx hC4 hB4 hK4
      refine hK.out _ _ ⟨(blk_cell BS4.out 0), (blk_cell BS4.out 1)⟩ (fun hHeld => ?_)
      clear hK K
      refine norm_ (a' := ?_) ?_ ?_
      rotate_left
      · show Act.put _ (some 19) _ = _
        simp only [Act.put, List.setIfInBounds_toArray, List.set_cons_zero, List.set_cons_succ, i64_w, i32_w]
        rfl
      refine last_ (i := 6) (N := none) #[true, true, true, true, true, true, true, false] rfl rfl (by kernel_rfl) (by decide) (fun K hK => ?_)
      have k0 : w4.cell? ⟨w.heap.size, 0, none⟩ = some (.int .i64 0) := (blk_cell BK4.out 0).trans rfl
      have k1 : w4.cell? ⟨w.heap.size, 1, none⟩ = some (.int .i64 0) := (blk_cell BK4.out 1).trans rfl
      have f0 := blk_frozen BK4.out 0
      have f1 := blk_frozen BK4.out 1
      refine skip_ (w1 := ?_) (by rfl) rfl ?_ ?_
      rotate_left
      · go_simp
        rfl
      refine hK.out _ _ ?_
      clear hK K
      refine pure_ (i := 7) (N := some 3) (v := ?_) (a' := ?_) #[true, true, true, true, true, true, true, true] rfl rfl (by kernel_rfl) (fun _ _ _ h => h) (Or.inl ⟨by rfl, ?_⟩) ?_ ?_
      rotate_left
      · intro w'
        go_simp
        with_reducible rfl
      rotate_left
      · simp only [Act.put, List.setIfInBounds_toArray, List.set_cons_zero, List.set_cons_succ, i64_w, i32_w]
        rfl
      refine done_ (by kernel_rfl) ?_
      all_goals go_wp2
      all_goals (refine bodyPost_ret (results_ct rfl _ _ w.heap.size 25 #[.int .i64 p, .int .i64 s] (0, 0) _ rfl (blk_two BK4.out _ _) Tryz.underlying25 rfl (by kernel_rfl)) rfl ?_)
      all_goals exact ⟨_, _, _, rfl, HD.out, .inl HX.out, ((HC4.out.far hgb.symm _).far hgb.symm _).up (by omega), below_set (below_set HB4.out (by omega)) (by omega), keep_far (keep_far HK4.out (Nat.le_refl _) _) (Nat.le_refl _) _⟩
    | false =>
      have hc0 : w3.cell? ⟨w1.heap.size, 0, none⟩ = some (.int .i64 p) := (blk_cell BS3.out 0).trans rfl
      have hc1 : w3.cell? ⟨w1.heap.size, 1, none⟩ = some (.int .i64 s) := (blk_cell BS3.out 1).trans rfl
      have mixed : Tryz.prog.follows Departure.mixedOrders = true := by kernel_rfl
      go_wp2_with fail
      go_region_with_o (go_at_call 57; refine (pick_calls w0 w3.drew g (N + 8) p HC3.out (below_drew HB3.out) (by omega)).mono ?_; rintro e w4 ⟨x, rfl, hx, hC4, hB4, hK4⟩; have BK4 := Aside0.mk (keep_box hK4 (blk_drew BK3.out) hgb); have BS4 := Aside0.mk (keep_box hK4 (blk_drew BS3.out) hgb1); have HX := Aside0.mk hx; have HC4 := Aside0.mk hC4; have HB4 := Aside0.mk hB4; have HK4 := Aside0.mk ((keep_drew HK3.out).trans hK4 (.inl rfl)); clear hx hC4 hB4 hK4; have d0 : w4.cell? ⟨w1.heap.size, 0, none⟩ = some (.int .i64 p) := (blk_cell BS4.out 0).trans rfl; have d1 : w4.cell? ⟨w1.heap.size, 1, none⟩ = some (.int .i64 s) := (blk_cell BS4.out 1).trans rfl; have k0 : w4.cell? ⟨w.heap.size, 0, none⟩ = some (.int .i64 0) := (blk_cell BK4.out 0).trans rfl; have k1 : w4.cell? ⟨w.heap.size, 1, none⟩ = some (.int .i64 0) := (blk_cell BK4.out 1).trans rfl; have f0 := blk_frozen BK4.out 0; have f1 := blk_frozen BK4.out 1)
      all_goals go_wp2
      all_goals (refine bodyPost_ret (results_ct rfl _ _ w.heap.size 25 #[.int .i64 p, .int .i64 s] (0, 0) _ rfl (blk_two BK4.out _ _) Tryz.underlying25 rfl (by kernel_rfl)) rfl ?_)
      all_goals exact ⟨_, _, _, rfl, HD.out, .inr ⟨HG.out, HX.out.1, HX.out.2.1 (by have := HG.out; unfold goodB at this; have := of_decide_eq_true this; omega)⟩, ((HC4.out.far hgb.symm _).far hgb.symm _).up (by omega), below_set (below_set HB4.out (by omega)) (by omega), keep_far (keep_far HK4.out (Nat.le_refl _) _) (Nat.le_refl _) _⟩
end Go.Proofs.YthmhfagnenoibaaGreatDoor.X
end
section
namespace Go.Proofs.YthmhfagnenoibaaGreatDoor.X
open Go.RowKit Go.Proofs.YthmhfagnenoibaaGreatDoorW.PrintWords Go.Proofs.YthmhfagnenoibaaGreatDoorW.PrintLast Go.Proofs.YthmhfagnenoibaaGreatDoorW.PrintMore
attribute [local go_sem] max2_int min2_int max_two min_two max_three min_three max_four min_four
set_option linter.unusedVariables false
set_option linter.unusedSimpArgs false
def isBytes (l : List Int) : Prop := ∀ x ∈ l, 0 ≤ x ∧ x ≤ 255
theorem cur_new {w W : World} (hB : Below w.heap.size w W) {A : Option Addr} {c : Nat} {l : List Int} (hl : Kd.C (Kd.int .u8) w A l.length l) (hr : isBytes l) {g : Nat} (hs : W.heap.size = g) : Cur w (W.alloc (.cells #[.slice A l.length c, .int .i64 0, .int .u64 0] 71 (0, 0))) g 0 := by
  subst hs
  exact ⟨A, c, l, 0, 0, blk_new W _, hB.size, hl, fun i h0 h1 => hr _ (rd_mem' l i h0 h1), Int.le_refl _, Int.le_refl _⟩
theorem below_one (w : World) (o : Obj) : Below w.heap.size w (w.alloc o) := below_alloc (Below.refl _ _) o
theorem below_two (w : World) (o o' : Obj) : Below w.heap.size w ((w.alloc o).alloc o') := below_alloc (below_one w o) o'
def TellsStar (P : Int → Int → Prop) (w : World) (e : Ending) (w' : World) : Prop := ∃ p s : Int, e = .returned (.agg #[.int .i64 p, .int .i64 s]) ∧ P p s ∧ Below w.heap.size w w'
set_option maxHeartbeats 2000000 in
theorem drawIsStar_calls (A : Option Addr) (c : Nat) (l : List Int) (w : World) (hl : Kd.C (Kd.int .u8) w A l.length l) (hr : isBytes l) :
    Calls Tryz.prog 37 #[.slice A l.length c] w (TellsStar StarDom w) := by
  have HL := Aside0.mk hl
  have HR := Aside0.mk hr
  clear hl hr
  go_enter Tryz.func37, Tryz.ntmps37
  go_wp2_with fail
  refine (star_calls w _ (w.heap.size + 1) 0 (cur_new (below_one w _) HL.out HR.out (by simp)) (below_two w _ _) (by omega)).mono ?_
  rintro e w1 ⟨p, s, rfl, hd, _, hB1, hK1⟩
  have HD := Aside0.mk hd
  have HB1 := Aside0.mk hB1
  have BK1 := Aside0.mk (keep_box hK1 (blk_alloc (blk_new w _) _) (by omega))
  clear hd hB1 hK1
  have k0 : w1.cell? ⟨w.heap.size, 0, none⟩ = some (.int .i64 0) := (blk_cell BK1.out 0).trans rfl
  have k1 : w1.cell? ⟨w.heap.size, 1, none⟩ = some (.int .i64 0) := (blk_cell BK1.out 1).trans rfl
  have f0 := blk_frozen BK1.out 0
  have f1 := blk_frozen BK1.out 1
  go_wp2
  refine bodyPost_ret (results_cell_row rfl _ _ w.heap.size 25 #[.int .i64 p, .int .i64 s] (0, 0) _ rfl (blk_two BK1.out _ _) Tryz.underlying25 rfl (by kernel_rfl)) rfl ?_
  exact ⟨_, _, rfl, HD.out, below_set (below_set HB1.out (Nat.le_refl _)) (Nat.le_refl _)⟩
def TellsPointed (w : World) (e : Ending) (w' : World) : Prop := ∃ p s x : Int, e = .returned (.tuple #[.agg #[.int .i64 p, .int .i64 s], .int .i64 x]) ∧ StarDom p s ∧ PtDom p s x ∧ Below w.heap.size w w'
set_option maxHeartbeats 2000000 in
theorem drawNextPoint_calls (A : Option Addr) (c : Nat) (l : List Int) (w : World) (hl : Kd.C (Kd.int .u8) w A l.length l) (hr : isBytes l) :
    Calls Tryz.prog 54 #[.slice A l.length c] w (TellsPointed w) := by
  have HL := Aside0.mk hl
  have HR := Aside0.mk hr
  clear hl hr
  go_enter Tryz.func54, Tryz.ntmps54
  go_wp2_with fail
  refine (pointed_calls w _ (w.heap.size + 1) 0 (cur_new (below_one w _) HL.out HR.out (by simp)) (below_two w _ _) (by omega)).mono ?_
  rintro e w1 ⟨p, s, x, rfl, hd, hx, _, hB1, hK1⟩
  have HD := Aside0.mk hd
  have HX := Aside0.mk hx
  have HB1 := Aside0.mk hB1
  have BK1 := Aside0.mk (keep_box hK1 (blk_alloc (blk_new w _) _) (by omega))
  clear hd hx hB1 hK1
  have k0 : w1.cell? ⟨w.heap.size, 0, none⟩ = some (.int .i64 0) := (blk_cell BK1.out 0).trans rfl
  have k1 : w1.cell? ⟨w.heap.size, 1, none⟩ = some (.int .i64 0) := (blk_cell BK1.out 1).trans rfl
  have f0 := blk_frozen BK1.out 0
  have f1 := blk_frozen BK1.out 1
  go_wp2
  refine bodyPost_ret (results_ct rfl _ _ w.heap.size 25 #[.int .i64 p, .int .i64 s] (0, 0) _ rfl (blk_two BK1.out _ _) Tryz.underlying25 rfl (by kernel_rfl)) rfl ?_
  exact ⟨_, _, _, rfl, HD.out, HX.out, below_set (below_set HB1.out (Nat.le_refl _)) (Nat.le_refl _)⟩
theorem among_at {w0 w : World} {g N e b : Nat} {l : List Int} (hs : w.heap.size = b) (hC : Cur w0 w g N) (hB : Below w0.heap.size w0 w) (hN : N ≤ 900000) (h0 : 0 < l.length) (h1 : l.length ≤ 1000) {n : Nat} (hn : l.length = n) {cs : Array Value} (hcs : (nums .i64 l).toArray = cs) :
    Calls Tryz.prog 60 #[.pointer (some ⟨g, 0, none⟩), .slice (some ⟨b, 0, none⟩) n n] (w.alloc (.cells cs e (0, 0))) (DrawsInt (· ∈ l) w0 w g (N + 2)) := by
  subst hs hn hcs
  exact among_lit w0 w g N e l hC hB hN h0 h1
end Go.Proofs.YthmhfagnenoibaaGreatDoor.X
end
section
namespace Go.Proofs.YthmhfagnenoibaaGreatDoor.X
open Go.RowKit Go.Proofs.YthmhfagnenoibaaGreatDoorW.PrintWords Go.Proofs.YthmhfagnenoibaaGreatDoorW.PrintLast Go.Proofs.YthmhfagnenoibaaGreatDoorW.PrintMore
attribute [local go_sem] max2_int min2_int max_two min_two max_three min_three max_four min_four
set_option linter.unusedVariables false
set_option linter.unusedSimpArgs false
set_option maxHeartbeats 2000000 in
theorem drawStringsOf_calls (A : Option Addr) (c : Nat) (l : List Int) (w : World) (hl : Kd.C (Kd.int .u8) w A l.length l) (hr : isBytes l) :
    Calls Tryz.prog 5 #[.slice A l.length c] w (TellsStar StarDom w) := by
  have HL := Aside0.mk hl
  have HR := Aside0.mk hr
  clear hl hr
  go_enter Tryz.func5, Tryz.ntmps5
  go_wp2_with fail
  refine (drawIsStar_calls A c l _ (Kd.C_below HL.out (below_one w _)) HR.out).mono ?_
  rintro e w1 ⟨p, s, rfl, hd, hb⟩
  have HD := Aside0.mk hd
  have HB1 := Aside0.mk (below_step (below_one w _) hb)
  have BK1 := Aside0.mk (blk_below (blk_new w _) hb)
  clear hd hb
  have k0 : w1.cell? ⟨w.heap.size, 0, none⟩ = some (.int .i64 0) := (blk_cell BK1.out 0).trans rfl
  have k1 : w1.cell? ⟨w.heap.size, 1, none⟩ = some (.int .i64 0) := (blk_cell BK1.out 1).trans rfl
  have f0 := blk_frozen BK1.out 0
  have f1 := blk_frozen BK1.out 1
  go_wp2
  refine bodyPost_ret (results_cell_row rfl _ _ w.heap.size 25 #[.int .i64 p, .int .i64 s] (0, 0) _ rfl (blk_two BK1.out _ _) Tryz.underlying25 rfl (by kernel_rfl)) rfl ?_
  exact ⟨_, _, rfl, HD.out, below_set (below_set HB1.out (Nat.le_refl _)) (Nat.le_refl _)⟩
set_option maxHeartbeats 2000000 in
theorem drawStringOf_calls (A : Option Addr) (c : Nat) (l : List Int) (w : World) (hl : Kd.C (Kd.int .u8) w A l.length l) (hr : isBytes l) :
    Calls Tryz.prog 23 #[.slice A l.length c] w (TellsPointed w) := by
  have HL := Aside0.mk hl
  have HR := Aside0.mk hr
  clear hl hr
  go_enter Tryz.func23, Tryz.ntmps23
  go_wp2_with fail
  refine (drawNextPoint_calls A c l _ (Kd.C_below HL.out (below_one w _)) HR.out).mono ?_
  rintro e w1 ⟨p, s, x, rfl, hd, hx, hb⟩
  have HD := Aside0.mk hd
  have HX := Aside0.mk hx
  have HB1 := Aside0.mk (below_step (below_one w _) hb)
  have BK1 := Aside0.mk (blk_below (blk_new w _) hb)
  clear hd hx hb
  have k0 : w1.cell? ⟨w.heap.size, 0, none⟩ = some (.int .i64 0) := (blk_cell BK1.out 0).trans rfl
  have k1 : w1.cell? ⟨w.heap.size, 1, none⟩ = some (.int .i64 0) := (blk_cell BK1.out 1).trans rfl
  have f0 := blk_frozen BK1.out 0
  have f1 := blk_frozen BK1.out 1
  go_wp2
  refine bodyPost_ret (results_ct rfl _ _ w.heap.size 25 #[.int .i64 p, .int .i64 s] (0, 0) _ rfl (blk_two BK1.out _ _) Tryz.underlying25 rfl (by kernel_rfl)) rfl ?_
  exact ⟨_, _, _, rfl, HD.out, HX.out, below_set (below_set HB1.out (Nat.le_refl _)) (Nat.le_refl _)⟩
def TellsPointedAnd (Q : Int → Prop) (w : World) (e : Ending) (w' : World) : Prop := ∃ p s x y : Int, e = .returned (.tuple #[.agg #[.int .i64 p, .int .i64 s], .int .i64 x, .int .i64 y]) ∧ StarDom p s ∧ PtDom p s x ∧ Q y ∧ Below w.heap.size w w'
def afterKs : List Int := [0, 1, 2, 3, 7, 100, 1000000, 1000001, -1]
theorem l1Most_calls (a b : Int) (w : World) : Calls Tryz.prog 58 #[.int .i64 a, .int .i64 b] w fun e w' => e = .returned (.int .i64 (if a > b then a else b)) ∧ Drawn0 w w' := by
  refine spec_l1Most.calls a b _ w ?_
  unfold spec_l1Most.f
  split <;> rfl
theorem l1Least_calls (a b : Int) (w : World) : Calls Tryz.prog 43 #[.int .i64 a, .int .i64 b] w fun e w' => e = .returned (.int .i64 (if a < b then a else b)) ∧ Drawn0 w w' := by
  refine spec_l1Least.calls a b _ w ?_
  unfold spec_l1Least.f
  split <;> rfl
set_option maxHeartbeats 2000000 in
set_option maxRecDepth 100000 in
theorem drawStepsBetween_calls (A : Option Addr) (c : Nat) (l : List Int) (w : World) (hl : Kd.C (Kd.int .u8) w A l.length l) (hr : isBytes l) :
    Calls Tryz.prog 27 #[.slice A l.length c] w (TellsPointedAnd (fun y => 0 ≤ y ∧ y < 16) w) := by
  have HL := Aside0.mk hl
  have HR := Aside0.mk hr
  clear hl hr
  go_enter Tryz.func27, Tryz.ntmps27
  go_wp2_with fail
  refine (pointed_calls w _ (w.heap.size + 1) 0 (cur_new (below_one w _) HL.out HR.out (by simp)) (below_two w _ _) (by omega)).mono ?_
  rintro e w1 ⟨p, s, x, rfl, hd, hx, hC1, hB1, hK1⟩
  have HD := Aside0.mk hd
  have HX := Aside0.mk hx
  have hP := StarDom.wf hd
  have hg1 := hC1.lt
  have HC1 := Aside0.mk (hC1.alloc (.cells #[.int .i64 p, .int .i64 s] 25 (0, 0)))
  have HB1 := Aside0.mk (below_alloc hB1 (.cells #[.int .i64 p, .int .i64 s] 25 (0, 0)))
  have B21 := Aside0.mk (blk_alloc (keep_box hK1 (blk_alloc (blk_new w _) _) (by omega)) (.cells #[.int .i64 p, .int .i64 s] 25 (0, 0)))
  have BS1 := Aside0.mk (blk_new w1 (.cells #[.int .i64 p, .int .i64 s] 25 (0, 0)))
  obtain ⟨m1, hm1⟩ : ∃ m1 : Int, (if (1 : Int) > p then 1 else p) = m1 := ⟨_, rfl⟩
  obtain ⟨m2, hm2⟩ : ∃ m2 : Int, (if (16 : Int) < m1 then 16 else m1) = m2 := ⟨_, rfl⟩
  have HM := Aside0.mk (fun W => l1Most_calls 1 p W)
  have HL16 := Aside0.mk (fun W => l1Least_calls 16 m1 W)
  rw [hm1] at HM
  rw [hm2] at HL16
  have h16 : Aside0 (1 ≤ m2 ∧ m2 ≤ 16) := ⟨by rw [← hm2, ← hm1]; split <;> split <;> omega⟩
  clear hm1 hm2
  clear hd hx hC1 hB1 hK1
  go_wp2_with fail
  generalize w1.alloc (.cells #[.int .i64 p, .int .i64 s] 25 (0, 0)) = wS at HC1 HB1 B21 BS1 ⊢
  refine start_ (n := 11) (S := fun w' => w'.cell? ⟨w1.heap.size, 0, none⟩ = some (.int .i64 p) ∧ w'.cell? ⟨w1.heap.size, 1, none⟩ = some (.int .i64 s)) (ds := [8]) #[false, false, false, false, false, false, false, false, false, false, false] (by kernel_rfl) rfl rfl ⟨(blk_cell (blk_drew BS1.out) 0), (blk_cell (blk_drew BS1.out) 1)⟩ (fun hHeld => ?_)
  refine pure_ (i := 1) (N := some 17) (v := ?_) (a' := ?_) #[false, true, false, false, false, false, false, false, false, false, false] rfl rfl (by kernel_rfl) (fun _ _ _ h => h) (Or.inl ⟨by rfl, ?_⟩) ?_ ?_
  rotate_left
  · intro w'
    go_simp
    with_reducible rfl
  rotate_left
  · simp only [Act.put, List.setIfInBounds_toArray, List.set_cons_zero, List.set_cons_succ, i64_w, i32_w]
    rfl
  refine pure_ (i := 2) (N := some 18) (v := ?_) (a' := ?_) #[false, true, true, false, false, false, false, false, false, false, false] rfl rfl (by kernel_rfl) (fun _ _ _ h => h) (Or.inl ⟨by rfl, ?_⟩) ?_ ?_
  rotate_left
  · intro w'
    go_simp
    with_reducible rfl
  rotate_left
  · simp only [Act.put, List.setIfInBounds_toArray, List.set_cons_zero, List.set_cons_succ, i64_w, i32_w]
    rfl
  refine pure_ (i := 3) (N := some 19) (v := ?_) (a' := ?_) #[false, true, true, true, false, false, false, false, false, false, false] rfl rfl (by kernel_rfl) (fun _ _ _ h => h) (Or.inl ⟨by rfl, ?_⟩) ?_ ?_
  rotate_left
  · intro w'
    go_simp
    with_reducible rfl
  rotate_left
  · simp only [Act.put, List.setIfInBounds_toArray, List.set_cons_zero, List.set_cons_succ, i64_w, i32_w]
    rfl
  refine take_ (i := 0) (N := some 16) (v := ?_) (a' := ?_) #[true, true, true, true, false, false, false, false, false, false, false] rfl rfl (by kernel_rfl) (fun _ _ _ h => h) (Or.inl ⟨by rfl, ?_⟩) hHeld ?_ ?_
  rotate_left
  · rintro w' ⟨s0, s1⟩
    go_simp
    with_reducible rfl
  rotate_left
  · simp only [Act.put, List.setIfInBounds_toArray, List.set_cons_zero, List.set_cons_succ, i64_w, i32_w]
    rfl
  refine take_ (i := 4) (N := some 20) (v := ?_) (a' := ?_) #[true, true, true, true, true, false, false, false, false, false, false] rfl rfl (by kernel_rfl) (fun _ _ _ h => h) (Or.inl ⟨by rfl, ?_⟩) hHeld ?_ ?_
  rotate_left
  · rintro w' ⟨s0, s1⟩
    go_simp
    with_reducible rfl
  rotate_left
  · simp only [Act.put, List.setIfInBounds_toArray, List.set_cons_zero, List.set_cons_succ, i64_w, i32_w]
    rfl
  refine one_ (i := 5) (N := some 21) #[true, true, true, true, true, true, false, false, false, false, false] rfl rfl (by kernel_rfl) (by decide) (fun K hK => ?_)
  refine goes_ Tryz.func58 (by kernel_rfl) rfl #[.int .i64 1, .int .i64 p] (by rfl) rfl rfl (by simp only [List.map_toArray, List.map_cons, List.map_nil]; rfl) ?_
  with_reducible refine (HM.out _).mono ?_
  rintro e w2 ⟨rfl, ⟨⟨na, rfl⟩⟩⟩
  refine ⟨_, rfl, ?_⟩
  refine hK.out _ _ ⟨(blk_cell (blk_drewN (blk_drew BS1.out) na) 0), (blk_cell (blk_drewN (blk_drew BS1.out) na) 1)⟩ (fun hHeld => ?_)
  clear hK K
  refine norm_ (a' := ?_) ?_ ?_
  rotate_left
  · show Act.put _ (some 21) _ = _
    simp only [Act.put, List.setIfInBounds_toArray, List.set_cons_zero, List.set_cons_succ, i64_w, i32_w]
    rfl
  refine one_ (i := 6) (N := some 22) #[true, true, true, true, true, true, true, false, false, false, false] rfl rfl (by kernel_rfl) (by decide) (fun K hK => ?_)
  refine goes_ Tryz.func43 (by kernel_rfl) rfl #[.int .i64 16, .int .i64 m1] (by rfl) rfl rfl (by simp only [List.map_toArray, List.map_cons, List.map_nil]; rfl) ?_
  with_reducible refine (HL16.out _).mono ?_
  rintro e w3 ⟨rfl, ⟨⟨nb, rfl⟩⟩⟩
  refine ⟨_, rfl, ?_⟩
  refine hK.out _ _ ⟨(blk_cell (blk_drewN (blk_drewN (blk_drew BS1.out) na) nb) 0), (blk_cell (blk_drewN (blk_drewN (blk_drew BS1.out) na) nb) 1)⟩ (fun hHeld => ?_)
  clear hK K
  refine norm_ (a' := ?_) ?_ ?_
  rotate_left
  · show Act.put _ (some 22) _ = _
    simp only [Act.put, List.setIfInBounds_toArray, List.set_cons_zero, List.set_cons_succ, i64_w, i32_w]
    rfl
  refine one_ (i := 7) (N := some 23) #[true, true, true, true, true, true, true, true, false, false, false] rfl rfl (by kernel_rfl) (by decide) (fun K hK => ?_)
  refine goes_ Tryz.func57 (by kernel_rfl) rfl #[.pointer (some ⟨w.heap.size + 1, 0, none⟩), .int .i64 m2] (by rfl) rfl rfl (by simp only [List.map_toArray, List.map_cons, List.map_nil]; rfl) ?_
  refine (pick_calls w _ (w.heap.size + 1) 10 m2 ((HC1.out.drew.drewN na).drewN nb) (pw_below_drewN (pw_below_drewN (below_drew HB1.out) na) nb) (by omega)).mono ?_
  rintro e w4 ⟨y, rfl, hy, _, hB4, hK4⟩
  refine ⟨_, rfl, ?_⟩
  have B24 := Aside0.mk (keep_box hK4 (blk_drewN (blk_drewN (blk_drew B21.out) na) nb) (by omega))
  have BS4 := Aside0.mk (keep_box hK4 (blk_drewN (blk_drewN (blk_drew BS1.out) na) nb) (by omega))
  have HY := Aside0.mk hy
  have HB4 := Aside0.mk hB4
  clear hy hB4 hK4
  refine hK.out _ _ ⟨(blk_cell BS4.out 0), (blk_cell BS4.out 1)⟩ (fun hHeld => ?_)
  clear hK K
  refine norm_ (a' := ?_) ?_ ?_
  rotate_left
  · show Act.put _ (some 23) _ = _
    simp only [Act.put, List.setIfInBounds_toArray, List.set_cons_zero, List.set_cons_succ, i64_w, i32_w]
    rfl
  refine last_ (i := 8) (N := none) #[true, true, true, true, true, true, true, true, true, false, false] rfl rfl (by kernel_rfl) (by decide) (fun K hK => ?_)
  have k0 : w4.cell? ⟨w.heap.size, 0, none⟩ = some (.int .i64 0) := (blk_cell B24.out 0).trans rfl
  have k1 : w4.cell? ⟨w.heap.size, 1, none⟩ = some (.int .i64 0) := (blk_cell B24.out 1).trans rfl
  have f0 := blk_frozen B24.out 0
  have f1 := blk_frozen B24.out 1
  refine skip_ (w1 := ?_) (by rfl) rfl ?_ ?_
  rotate_left
  · go_simp
    rfl
  clear k0 k1 f0 f1
  refine hK.out _ _ ?_
  clear hK K
  refine pure_ (i := 9) (N := some 3) (v := ?_) (a' := ?_) #[true, true, true, true, true, true, true, true, true, true, false] rfl rfl (by kernel_rfl) (fun _ _ _ h => h) (Or.inl ⟨by rfl, ?_⟩) ?_ ?_
  rotate_left
  · intro w'
    go_simp
    with_reducible rfl
  rotate_left
  · simp only [Act.put, List.setIfInBounds_toArray, List.set_cons_zero, List.set_cons_succ, i64_w, i32_w]
    rfl
  refine pure_ (i := 10) (N := some 4) (v := ?_) (a' := ?_) #[true, true, true, true, true, true, true, true, true, true, true] rfl rfl (by kernel_rfl) (fun _ _ _ h => h) (Or.inl ⟨by rfl, ?_⟩) ?_ ?_
  rotate_left
  · intro w'
    go_simp
    with_reducible rfl
  rotate_left
  · simp only [Act.put, List.setIfInBounds_toArray, List.set_cons_zero, List.set_cons_succ, i64_w, i32_w]
    rfl
  refine done_ (by kernel_rfl) ?_
  go_wp2
  refine bodyPost_ret (results_ctt rfl _ _ w.heap.size 25 #[.int .i64 p, .int .i64 s] (0, 0) _ rfl (blk_two B24.out _ _) Tryz.underlying25 rfl (by kernel_rfl)) rfl ?_
  exact ⟨_, _, _, _, rfl, HD.out, HX.out, ⟨HY.out.1, by have := HY.out.2.1 h16.out.1; have := h16.out.2; omega⟩, below_set (below_set HB4.out (Nat.le_refl _)) (Nat.le_refl _)⟩
set_option maxHeartbeats 2000000 in
set_option maxRecDepth 100000 in
theorem drawPointAfter_calls (A : Option Addr) (c : Nat) (l : List Int) (w : World) (hl : Kd.C (Kd.int .u8) w A l.length l) (hr : isBytes l) :
    Calls Tryz.prog 32 #[.slice A l.length c] w (TellsPointedAnd (· ∈ afterKs) w) := by
  have HL := Aside0.mk hl
  have HR := Aside0.mk hr
  clear hl hr
  go_enter Tryz.func32, Tryz.ntmps32
  go_wp2_with fail
  refine (pointed_calls w _ (w.heap.size + 1) 0 (cur_new (below_one w _) HL.out HR.out (by simp)) (below_two w _ _) (by omega)).mono ?_
  rintro e w1 ⟨p, s, x, rfl, hd, hx, hC1, hB1, hK1⟩
  have HD := Aside0.mk hd
  have HX := Aside0.mk hx
  have hP := StarDom.wf hd
  have hg1 := hC1.lt
  have HC1 := Aside0.mk (hC1.alloc (.cells #[.int .i64 p, .int .i64 s] 25 (0, 0)))
  have HB1 := Aside0.mk (below_alloc hB1 (.cells #[.int .i64 p, .int .i64 s] 25 (0, 0)))
  have B21 := Aside0.mk (blk_alloc (keep_box hK1 (blk_alloc (blk_new w _) _) (by omega)) (.cells #[.int .i64 p, .int .i64 s] 25 (0, 0)))
  have BS1 := Aside0.mk (blk_new w1 (.cells #[.int .i64 p, .int .i64 s] 25 (0, 0)))
  clear hd hx hC1 hB1 hK1
  go_wp2_with fail
  generalize w1.alloc (.cells #[.int .i64 p, .int .i64 s] 25 (0, 0)) = wS at HC1 HB1 B21 BS1 ⊢
  refine start_ (n := 8) (S := fun w' => w'.cell? ⟨w1.heap.size, 0, none⟩ = some (.int .i64 p) ∧ w'.cell? ⟨w1.heap.size, 1, none⟩ = some (.int .i64 s)) (ds := [5]) #[false, false, false, false, false, false, false, false] (by kernel_rfl) rfl rfl ⟨(blk_cell (blk_drew BS1.out) 0), (blk_cell (blk_drew BS1.out) 1)⟩ (fun hHeld => ?_)
  refine pure_ (i := 1) (N := some 17) (v := ?_) (a' := ?_) #[false, true, false, false, false, false, false, false] rfl rfl (by kernel_rfl) (fun _ _ _ h => h) (Or.inl ⟨by rfl, ?_⟩) ?_ ?_
  rotate_left
  · intro w'
    go_simp
    with_reducible rfl
  rotate_left
  · simp only [Act.put, List.setIfInBounds_toArray, List.set_cons_zero, List.set_cons_succ, i64_w, i32_w]
    rfl
  refine pure_ (i := 2) (N := some 18) (v := ?_) (a' := ?_) #[false, true, true, false, false, false, false, false] rfl rfl (by kernel_rfl) (fun _ _ _ h => h) (Or.inl ⟨by rfl, ?_⟩) ?_ ?_
  rotate_left
  · intro w'
    go_simp
    with_reducible rfl
  rotate_left
  · simp only [Act.put, List.setIfInBounds_toArray, List.set_cons_zero, List.set_cons_succ, i64_w, i32_w]
    rfl
  refine take_ (i := 0) (N := some 16) (v := ?_) (a' := ?_) #[true, true, true, false, false, false, false, false] rfl rfl (by kernel_rfl) (fun _ _ _ h => h) (Or.inl ⟨by rfl, ?_⟩) hHeld ?_ ?_
  rotate_left
  · rintro w' ⟨s0, s1⟩
    go_simp
    with_reducible rfl
  rotate_left
  · simp only [Act.put, List.setIfInBounds_toArray, List.set_cons_zero, List.set_cons_succ, i64_w, i32_w]
    rfl
  refine one_ (i := 3) (N := some 19) #[true, true, true, true, false, false, false, false] rfl rfl (by kernel_rfl) (by decide) (fun K hK => ?_)
  refine value_ (w1 := ?_) (v := ?_) (by rfl) rfl ?_ ?_
  rotate_left 2
  · go_simp
    constructor
    · rfl
    · rfl
  refine hK.out _ _ ⟨(blk_cell (blk_alloc (blk_drew BS1.out) _) 0), (blk_cell (blk_alloc (blk_drew BS1.out) _) 1)⟩ (fun hHeld => ?_)
  clear hK K
  refine norm_ (a' := ?_) ?_ ?_
  rotate_left
  · show Act.put _ (some 19) _ = _
    simp only [Act.put, List.setIfInBounds_toArray, List.set_cons_zero, List.set_cons_succ, i64_w, i32_w]
    rfl
  refine one_ (i := 4) (N := some 20) #[true, true, true, true, true, false, false, false] rfl rfl (by kernel_rfl) (by decide) (fun K hK => ?_)
  refine goes_ Tryz.func60 (by kernel_rfl) rfl #[.pointer (some ⟨w.heap.size + 1, 0, none⟩), .slice (some ⟨wS.drew.heap.size, 0, none⟩) 9 9] (by rfl) rfl rfl (by simp only [List.map_toArray, List.map_cons, List.map_nil]; rfl) ?_
  refine (among_at (w := wS.drew) (e := 3) (l := afterKs) rfl HC1.out.drew (below_drew HB1.out) (by omega) (by decide) (by decide) rfl rfl).mono ?_
  rintro e w4 ⟨y, rfl, hy, _, hB4, hK4⟩
  refine ⟨_, rfl, ?_⟩
  have B24 := Aside0.mk (keep_box hK4 (blk_drew B21.out) (by omega))
  have BS4 := Aside0.mk (keep_box hK4 (blk_drew BS1.out) (by omega))
  have HY := Aside0.mk hy
  have HB4 := Aside0.mk hB4
  clear hy hB4 hK4
  refine hK.out _ _ ⟨(blk_cell BS4.out 0), (blk_cell BS4.out 1)⟩ (fun hHeld => ?_)
  clear hK K
  refine norm_ (a' := ?_) ?_ ?_
  rotate_left
  · show Act.put _ (some 20) _ = _
    simp only [Act.put, List.setIfInBounds_toArray, List.set_cons_zero, List.set_cons_succ, i64_w, i32_w]
    rfl
  refine last_ (i := 5) (N := none) #[true, true, true, true, true, true, false, false] rfl rfl (by kernel_rfl) (by decide) (fun K hK => ?_)
  have k0 : w4.cell? ⟨w.heap.size, 0, none⟩ = some (.int .i64 0) := (blk_cell B24.out 0).trans rfl
  have k1 : w4.cell? ⟨w.heap.size, 1, none⟩ = some (.int .i64 0) := (blk_cell B24.out 1).trans rfl
  have f0 := blk_frozen B24.out 0
  have f1 := blk_frozen B24.out 1
  refine skip_ (w1 := ?_) (by rfl) rfl ?_ ?_
  rotate_left
  · go_simp
    rfl
  clear k0 k1 f0 f1
  refine hK.out _ _ ?_
  clear hK K
  refine pure_ (i := 6) (N := some 3) (v := ?_) (a' := ?_) #[true, true, true, true, true, true, true, false] rfl rfl (by kernel_rfl) (fun _ _ _ h => h) (Or.inl ⟨by rfl, ?_⟩) ?_ ?_
  rotate_left
  · intro w'
    go_simp
    with_reducible rfl
  rotate_left
  · simp only [Act.put, List.setIfInBounds_toArray, List.set_cons_zero, List.set_cons_succ, i64_w, i32_w]
    rfl
  refine pure_ (i := 7) (N := some 4) (v := ?_) (a' := ?_) #[true, true, true, true, true, true, true, true] rfl rfl (by kernel_rfl) (fun _ _ _ h => h) (Or.inl ⟨by rfl, ?_⟩) ?_ ?_
  rotate_left
  · intro w'
    go_simp
    with_reducible rfl
  rotate_left
  · simp only [Act.put, List.setIfInBounds_toArray, List.set_cons_zero, List.set_cons_succ, i64_w, i32_w]
    rfl
  refine done_ (by kernel_rfl) ?_
  go_wp2
  refine bodyPost_ret (results_ctt rfl _ _ w.heap.size 25 #[.int .i64 p, .int .i64 s] (0, 0) _ rfl (blk_two B24.out _ _) Tryz.underlying25 rfl (by kernel_rfl)) rfl ?_
  exact ⟨_, _, _, _, rfl, HD.out, HX.out, HY.out, below_set (below_set HB4.out (Nat.le_refl _)) (Nat.le_refl _)⟩
end Go.Proofs.YthmhfagnenoibaaGreatDoor.X
end
section
namespace Go.Proofs.YthmhfagnenoibaaGreatDoor.X
open Go.RowKit Go.Proofs.YthmhfagnenoibaaGreatDoorW.PrintWords Go.Proofs.YthmhfagnenoibaaGreatDoorW.PrintLast Go.Proofs.YthmhfagnenoibaaGreatDoorW.PrintMore
attribute [local go_sem] max2_int min2_int max_two min_two max_three min_three max_four min_four
set_option linter.unusedVariables false
set_option linter.unusedSimpArgs false
theorem lit_of {w0 w : World} {g N : Nat} (_h : Cur w0 w g N) (e : Nat) (l : List Int) (h1 : l.length ≤ 1000) : Kd.C (Kd.int .i64) (w.alloc (.cells (nums .i64 l).toArray e (0, 0))) (some ⟨w.heap.size, 0, none⟩) l.length l := lit_C w e l h1
def stepKs : List Int := [1, 2, 3, 4, 5, 60, 61, 0, -1]
def TellsFour (w : World) (e : Ending) (w' : World) : Prop := ∃ p x y k : Int, e = .returned (.tuple #[.int .i64 p, .int .i64 x, .int .i64 y, .int .i64 k]) ∧ (∃ s, StarDom p s ∧ PtDom p s x) ∧ (0 ≤ y ∧ y < 16) ∧ k ∈ stepKs ∧ Below w.heap.size w w'
set_option maxHeartbeats 2000000 in
set_option maxRecDepth 100000 in
theorem drawStepTo_calls (A : Option Addr) (c : Nat) (l : List Int) (w : World) (hl : Kd.C (Kd.int .u8) w A l.length l) (hr : isBytes l) :
    Calls Tryz.prog 29 #[.slice A l.length c] w (TellsFour w) := by
  have HL := Aside0.mk hl
  have HR := Aside0.mk hr
  clear hl hr
  go_enter Tryz.func29, Tryz.ntmps29
  go_wp2_with fail
  refine (pointed_calls w _ w.heap.size 0 (cur_new (Below.refl _ _) HL.out HR.out rfl) (below_one w _) (by omega)).mono ?_
  rintro e w1 ⟨p, s, x, rfl, hd, hx, hC1, hB1, hK1⟩
  have HD := Aside0.mk hd
  have HX := Aside0.mk hx
  have hP := StarDom.wf hd
  have hg1 := hC1.lt
  have HC1 := Aside0.mk (hC1.alloc (.cells #[.int .i64 p, .int .i64 s] 25 (0, 0)))
  have HB1 := Aside0.mk (below_alloc hB1 (.cells #[.int .i64 p, .int .i64 s] 25 (0, 0)))
  have BS1 := Aside0.mk (blk_new w1 (.cells #[.int .i64 p, .int .i64 s] 25 (0, 0)))
  obtain ⟨m1, hm1⟩ : ∃ m1 : Int, (if (1 : Int) > p then 1 else p) = m1 := ⟨_, rfl⟩
  obtain ⟨m2, hm2⟩ : ∃ m2 : Int, (if (16 : Int) < m1 then 16 else m1) = m2 := ⟨_, rfl⟩
  have HM := Aside0.mk (fun W => l1Most_calls 1 p W)
  have HL16 := Aside0.mk (fun W => l1Least_calls 16 m1 W)
  rw [hm1] at HM
  rw [hm2] at HL16
  have h16 : Aside0 (1 ≤ m2 ∧ m2 ≤ 16) := ⟨by rw [← hm2, ← hm1]; split <;> split <;> omega⟩
  clear hm1 hm2
  clear hd hx hC1 hB1 hK1
  go_wp2_with fail
  generalize w1.alloc (.cells #[.int .i64 p, .int .i64 s] 25 (0, 0)) = wS at HC1 HB1 BS1 ⊢
  have HCc := Aside0.mk HC1.out.drew
  have HBc := Aside0.mk (below_drew HB1.out)
  have BSc := Aside0.mk (blk_drew BS1.out)
  clear HC1 HB1 BS1
  refine start_ (n := 16) (S := fun w' => w'.cell? ⟨w1.heap.size, 0, none⟩ = some (.int .i64 p)) (ds := []) #[false, false, false, false, false, false, false, false, false, false, false, false, false, false, false, false] (by kernel_rfl) rfl rfl ((blk_cell BSc.out 0)) (fun hHeld => ?_)
  refine pure_ (i := 0) (N := some 17) (v := ?_) (a' := ?_) #[true, false, false, false, false, false, false, false, false, false, false, false, false, false, false, false] rfl rfl (by kernel_rfl) (fun _ _ _ h => h) (Or.inl ⟨by rfl, ?_⟩) ?_ ?_
  rotate_left
  · intro w'
    go_simp
    with_reducible rfl
  rotate_left
  · simp only [Act.put, List.setIfInBounds_toArray, List.set_cons_zero, List.set_cons_succ, i64_w, i32_w]
    rfl
  refine pure_ (i := 2) (N := some 19) (v := ?_) (a' := ?_) #[true, false, true, false, false, false, false, false, false, false, false, false, false, false, false, false] rfl rfl (by kernel_rfl) (fun _ _ _ h => h) (Or.inl ⟨by rfl, ?_⟩) ?_ ?_
  rotate_left
  · intro w'
    go_simp
    with_reducible rfl
  rotate_left
  · simp only [Act.put, List.setIfInBounds_toArray, List.set_cons_zero, List.set_cons_succ, i64_w, i32_w]
    rfl
  refine pure_ (i := 3) (N := some 20) (v := ?_) (a' := ?_) #[true, false, true, true, false, false, false, false, false, false, false, false, false, false, false, false] rfl rfl (by kernel_rfl) (fun _ _ _ h => h) (Or.inl ⟨by rfl, ?_⟩) ?_ ?_
  rotate_left
  · intro w'
    go_simp
    with_reducible rfl
  rotate_left
  · simp only [Act.put, List.setIfInBounds_toArray, List.set_cons_zero, List.set_cons_succ, i64_w, i32_w]
    rfl
  refine pure_ (i := 4) (N := some 21) (v := ?_) (a' := ?_) #[true, false, true, true, true, false, false, false, false, false, false, false, false, false, false, false] rfl rfl (by kernel_rfl) (fun _ _ _ h => h) (Or.inl ⟨by rfl, ?_⟩) ?_ ?_
  rotate_left
  · intro w'
    go_simp
    with_reducible rfl
  rotate_left
  · simp only [Act.put, List.setIfInBounds_toArray, List.set_cons_zero, List.set_cons_succ, i64_w, i32_w]
    rfl
  refine pure_ (i := 9) (N := some 26) (v := ?_) (a' := ?_) #[true, false, true, true, true, false, false, false, false, true, false, false, false, false, false, false] rfl rfl (by kernel_rfl) (fun _ _ _ h => h) (Or.inl ⟨by rfl, ?_⟩) ?_ ?_
  rotate_left
  · intro w'
    go_simp
    with_reducible rfl
  rotate_left
  · simp only [Act.put, List.setIfInBounds_toArray, List.set_cons_zero, List.set_cons_succ, i64_w, i32_w]
    rfl
  refine take_ (i := 1) (N := some 18) (v := ?_) (a' := ?_) #[true, true, true, true, true, false, false, false, false, true, false, false, false, false, false, false] rfl rfl (by kernel_rfl) (fun _ _ _ h => h) (Or.inl ⟨by rfl, ?_⟩) hHeld ?_ ?_
  rotate_left
  · intro w' s0
    go_simp
    with_reducible rfl
  rotate_left
  · simp only [Act.put, List.setIfInBounds_toArray, List.set_cons_zero, List.set_cons_succ, i64_w, i32_w]
    rfl
  refine take_ (i := 5) (N := some 22) (v := ?_) (a' := ?_) #[true, true, true, true, true, true, false, false, false, true, false, false, false, false, false, false] rfl rfl (by kernel_rfl) (fun _ _ _ h => h) (Or.inl ⟨by rfl, ?_⟩) hHeld ?_ ?_
  rotate_left
  · intro w' s0
    go_simp
    with_reducible rfl
  rotate_left
  · simp only [Act.put, List.setIfInBounds_toArray, List.set_cons_zero, List.set_cons_succ, i64_w, i32_w]
    rfl
  refine join_ (σ := Int × Option Addr) 5 #[true, true, true, true, true, true, true, true, true, true, true, false, false, false, false, false] (fun s_ => [(23, .int .i64 m1), (24, .int .i64 m2), (25, .int .i64 s_.1), (27, .slice s_.2 9 9)]) (fun s_ w' => (w'.cell? ⟨w1.heap.size, 0, none⟩ = some (.int .i64 p)) ∧ Picked m2 s_.1 ∧ Kd.C (Kd.int .i64) w' s_.2 stepKs.length stepKs ∧ (∀ ad, s_.2 = some ad → ad.block ≠ w.heap.size) ∧ Cur w w' w.heap.size 12 ∧ Below w.heap.size w w') ?_ ?_
  rotate_left
  · intro hCont
    refine two_ (i := 6) (j := 10) (Ni := some 23) (Nj := some 27) #[true, true, true, true, true, true, true, false, false, true, false, false, false, false, false, false] #[true, true, true, true, true, true, false, false, false, true, true, false, false, false, false, false] rfl rfl rfl rfl (by kernel_rfl) (by decide) (by decide) (fun K hK => ?_) (fun K hK => ?_)
    · skip
      refine goes_ Tryz.func58 (by kernel_rfl) rfl #[.int .i64 1, .int .i64 p] (by rfl) rfl rfl (by simp only [List.map_toArray, List.map_cons, List.map_nil]; rfl) ?_
      with_reducible refine (HM.out _).mono ?_
      rintro e w2 ⟨rfl, hd2⟩
      refine ⟨_, rfl, ?_⟩
      have n0_ := Aside0.mk (HCc.out.below hd2.below)
      have n1_ := Aside0.mk (below_step HBc.out hd2.below)
      have n2_ := Aside0.mk (blk_below BSc.out hd2.below)
      clear HCc HBc BSc
      have HCc := n0_
      have HBc := n1_
      have BSc := n2_
      clear n0_ n1_ n2_
      clear hd2
      refine hK.out _ _ ((blk_cell BSc.out 0)) (fun hHeld => ?_)
      clear hK K
      refine norm_ (a' := ?_) ?_ ?_
      rotate_left
      · show Act.put _ (some 23) _ = _
        simp only [Act.put, List.setIfInBounds_toArray, List.set_cons_zero, List.set_cons_succ, i64_w, i32_w]
        rfl
      refine two_ (i := 7) (j := 10) (Ni := some 24) (Nj := some 27) #[true, true, true, true, true, true, true, true, false, true, false, false, false, false, false, false] #[true, true, true, true, true, true, true, false, false, true, true, false, false, false, false, false] rfl rfl rfl rfl (by kernel_rfl) (by decide) (by decide) (fun K hK => ?_) (fun K hK => ?_)
      · skip
        refine goes_ Tryz.func43 (by kernel_rfl) rfl #[.int .i64 16, .int .i64 m1] (by rfl) rfl rfl (by simp only [List.map_toArray, List.map_cons, List.map_nil]; rfl) ?_
        with_reducible refine (HL16.out _).mono ?_
        rintro e w3 ⟨rfl, hd3⟩
        refine ⟨_, rfl, ?_⟩
        have n0_ := Aside0.mk (HCc.out.below hd3.below)
        have n1_ := Aside0.mk (below_step HBc.out hd3.below)
        have n2_ := Aside0.mk (blk_below BSc.out hd3.below)
        clear HCc HBc BSc
        have HCc := n0_
        have HBc := n1_
        have BSc := n2_
        clear n0_ n1_ n2_
        clear hd3
        refine hK.out _ _ ((blk_cell BSc.out 0)) (fun hHeld => ?_)
        clear hK K
        refine norm_ (a' := ?_) ?_ ?_
        rotate_left
        · show Act.put _ (some 24) _ = _
          simp only [Act.put, List.setIfInBounds_toArray, List.set_cons_zero, List.set_cons_succ, i64_w, i32_w]
          rfl
        refine two_ (i := 8) (j := 10) (Ni := some 25) (Nj := some 27) #[true, true, true, true, true, true, true, true, true, true, false, false, false, false, false, false] #[true, true, true, true, true, true, true, true, false, true, true, false, false, false, false, false] rfl rfl rfl rfl (by kernel_rfl) (by decide) (by decide) (fun K hK => ?_) (fun K hK => ?_)
        · skip
          refine goes_ Tryz.func57 (by kernel_rfl) rfl #[.pointer (some ⟨w.heap.size, 0, none⟩), .int .i64 m2] (by rfl) rfl rfl (by simp only [List.map_toArray, List.map_cons, List.map_nil]; rfl) ?_
          refine (pick_calls w _ w.heap.size 10 m2 HCc.out HBc.out (by omega)).mono ?_
          rintro e w4 ⟨y, rfl, hy, hC4, hB4, hK4⟩
          refine ⟨_, rfl, ?_⟩
          have HY := Aside0.mk hy
          have n0_ := Aside0.mk (hC4)
          have n1_ := Aside0.mk (hB4)
          have n2_ := Aside0.mk (keep_box hK4 BSc.out (by omega))
          clear HCc HBc BSc
          have HCc := n0_
          have HBc := n1_
          have BSc := n2_
          clear n0_ n1_ n2_
          clear hy hC4 hB4 hK4
          refine hK.out _ _ ((blk_cell BSc.out 0)) (fun hHeld => ?_)
          clear hK K
          refine norm_ (a' := ?_) ?_ ?_
          rotate_left
          · show Act.put _ (some 25) _ = _
            simp only [Act.put, List.setIfInBounds_toArray, List.set_cons_zero, List.set_cons_succ, i64_w, i32_w]
            rfl
          refine one_ (i := 10) (N := some 27) #[true, true, true, true, true, true, true, true, true, true, true, false, false, false, false, false] rfl rfl (by kernel_rfl) (by decide) (fun K hK => ?_)
          refine value_ (w1 := ?_) (v := ?_) (by rfl) rfl ?_ ?_
          rotate_left 2
          · go_simp
            constructor
            · rfl
            · rfl
          have HNe := Aside0.mk (Nat.ne_of_gt HCc.out.lt)
          have n0_ := Aside0.mk (lit_of HCc.out 3 stepKs (by decide))
          have n1_ := Aside0.mk (HCc.out.alloc (.cells (nums .i64 stepKs).toArray 3 (0, 0)))
          have n2_ := Aside0.mk (below_alloc HBc.out (.cells (nums .i64 stepKs).toArray 3 (0, 0)))
          have n3_ := Aside0.mk (blk_alloc BSc.out (.cells (nums .i64 stepKs).toArray 3 (0, 0)))
          clear HCc HBc BSc
          have HLc := n0_
          have HCc := n1_
          have HBc := n2_
          have BSc := n3_
          clear n0_ n1_ n2_ n3_
          refine hK.out _ _ ((blk_cell BSc.out 0)) (fun hHeld => ?_)
          clear hK K
          refine norm_ (a' := ?_) ?_ ?_
          rotate_left
          · show Act.put _ (some 27) _ = _
            simp only [Act.put, List.setIfInBounds_toArray, List.set_cons_zero, List.set_cons_succ, i64_w, i32_w]
            rfl
          exact norm_ (by first | (simp only [putAll, Act.put, List.setIfInBounds_toArray, List.set_cons_zero, List.set_cons_succ]; done) | (simp only [putAll, Act.put, List.setIfInBounds_toArray, List.set_cons_zero, List.set_cons_succ]; rfl)) (hCont (y, some ⟨_, 0, none⟩) _ ⟨(blk_cell BSc.out 0).trans rfl, HY.out, HLc.out, fun ad h => by cases h; exact HNe.out, HCc.out.up (by omega), HBc.out⟩)
        · skip
          refine value_ (w1 := ?_) (v := ?_) (by rfl) rfl ?_ ?_
          rotate_left 2
          · go_simp
            constructor
            · rfl
            · rfl
          have HNe := Aside0.mk (Nat.ne_of_gt HCc.out.lt)
          have n0_ := Aside0.mk (lit_of HCc.out 3 stepKs (by decide))
          have n1_ := Aside0.mk (HCc.out.alloc (.cells (nums .i64 stepKs).toArray 3 (0, 0)))
          have n2_ := Aside0.mk (below_alloc HBc.out (.cells (nums .i64 stepKs).toArray 3 (0, 0)))
          have n3_ := Aside0.mk (blk_alloc BSc.out (.cells (nums .i64 stepKs).toArray 3 (0, 0)))
          clear HCc HBc BSc
          have HLc := n0_
          have HCc := n1_
          have HBc := n2_
          have BSc := n3_
          clear n0_ n1_ n2_ n3_
          refine hK.out _ _ ((blk_cell BSc.out 0)) (fun hHeld => ?_)
          clear hK K
          refine norm_ (a' := ?_) ?_ ?_
          rotate_left
          · show Act.put _ (some 27) _ = _
            simp only [Act.put, List.setIfInBounds_toArray, List.set_cons_zero, List.set_cons_succ, i64_w, i32_w]
            rfl
          refine one_ (i := 8) (N := some 25) #[true, true, true, true, true, true, true, true, true, true, true, false, false, false, false, false] rfl rfl (by kernel_rfl) (by decide) (fun K hK => ?_)
          refine goes_ Tryz.func57 (by kernel_rfl) rfl #[.pointer (some ⟨w.heap.size, 0, none⟩), .int .i64 m2] (by rfl) rfl rfl (by simp only [List.map_toArray, List.map_cons, List.map_nil]; rfl) ?_
          refine (pick_calls w _ w.heap.size 10 m2 HCc.out HBc.out (by omega)).mono ?_
          rintro e w4 ⟨y, rfl, hy, hC4, hB4, hK4⟩
          refine ⟨_, rfl, ?_⟩
          have HY := Aside0.mk hy
          have n0_ := Aside0.mk (hC4)
          have n1_ := Aside0.mk (hB4)
          have n2_ := Aside0.mk (keep_box hK4 BSc.out (by omega))
          have n3_ := Aside0.mk (Kd.C_keep (0 : Int) HLc.out hK4 (fun ad h _ => by cases h; exact HNe.out))
          clear HCc HBc BSc HLc
          have HCc := n0_
          have HBc := n1_
          have BSc := n2_
          have HLc := n3_
          clear n0_ n1_ n2_ n3_
          clear hy hC4 hB4 hK4
          refine hK.out _ _ ((blk_cell BSc.out 0)) (fun hHeld => ?_)
          clear hK K
          refine norm_ (a' := ?_) ?_ ?_
          rotate_left
          · show Act.put _ (some 25) _ = _
            simp only [Act.put, List.setIfInBounds_toArray, List.set_cons_zero, List.set_cons_succ, i64_w, i32_w]
            rfl
          exact norm_ (by first | (simp only [putAll, Act.put, List.setIfInBounds_toArray, List.set_cons_zero, List.set_cons_succ]; done) | (simp only [putAll, Act.put, List.setIfInBounds_toArray, List.set_cons_zero, List.set_cons_succ]; rfl)) (hCont (y, some ⟨_, 0, none⟩) _ ⟨(blk_cell BSc.out 0).trans rfl, HY.out, HLc.out, fun ad h => by cases h; exact HNe.out, HCc.out.up (by omega), HBc.out⟩)
      · skip
        refine value_ (w1 := ?_) (v := ?_) (by rfl) rfl ?_ ?_
        rotate_left 2
        · go_simp
          constructor
          · rfl
          · rfl
        have HNe := Aside0.mk (Nat.ne_of_gt HCc.out.lt)
        have n0_ := Aside0.mk (lit_of HCc.out 3 stepKs (by decide))
        have n1_ := Aside0.mk (HCc.out.alloc (.cells (nums .i64 stepKs).toArray 3 (0, 0)))
        have n2_ := Aside0.mk (below_alloc HBc.out (.cells (nums .i64 stepKs).toArray 3 (0, 0)))
        have n3_ := Aside0.mk (blk_alloc BSc.out (.cells (nums .i64 stepKs).toArray 3 (0, 0)))
        clear HCc HBc BSc
        have HLc := n0_
        have HCc := n1_
        have HBc := n2_
        have BSc := n3_
        clear n0_ n1_ n2_ n3_
        refine hK.out _ _ ((blk_cell BSc.out 0)) (fun hHeld => ?_)
        clear hK K
        refine norm_ (a' := ?_) ?_ ?_
        rotate_left
        · show Act.put _ (some 27) _ = _
          simp only [Act.put, List.setIfInBounds_toArray, List.set_cons_zero, List.set_cons_succ, i64_w, i32_w]
          rfl
        refine one_ (i := 7) (N := some 24) #[true, true, true, true, true, true, true, true, false, true, true, false, false, false, false, false] rfl rfl (by kernel_rfl) (by decide) (fun K hK => ?_)
        refine goes_ Tryz.func43 (by kernel_rfl) rfl #[.int .i64 16, .int .i64 m1] (by rfl) rfl rfl (by simp only [List.map_toArray, List.map_cons, List.map_nil]; rfl) ?_
        with_reducible refine (HL16.out _).mono ?_
        rintro e w3 ⟨rfl, hd3⟩
        refine ⟨_, rfl, ?_⟩
        have n0_ := Aside0.mk (HCc.out.below hd3.below)
        have n1_ := Aside0.mk (below_step HBc.out hd3.below)
        have n2_ := Aside0.mk (blk_below BSc.out hd3.below)
        have n3_ := Aside0.mk (Kd.C_below HLc.out hd3.below)
        clear HCc HBc BSc HLc
        have HCc := n0_
        have HBc := n1_
        have BSc := n2_
        have HLc := n3_
        clear n0_ n1_ n2_ n3_
        clear hd3
        refine hK.out _ _ ((blk_cell BSc.out 0)) (fun hHeld => ?_)
        clear hK K
        refine norm_ (a' := ?_) ?_ ?_
        rotate_left
        · show Act.put _ (some 24) _ = _
          simp only [Act.put, List.setIfInBounds_toArray, List.set_cons_zero, List.set_cons_succ, i64_w, i32_w]
          rfl
        refine one_ (i := 8) (N := some 25) #[true, true, true, true, true, true, true, true, true, true, true, false, false, false, false, false] rfl rfl (by kernel_rfl) (by decide) (fun K hK => ?_)
        refine goes_ Tryz.func57 (by kernel_rfl) rfl #[.pointer (some ⟨w.heap.size, 0, none⟩), .int .i64 m2] (by rfl) rfl rfl (by simp only [List.map_toArray, List.map_cons, List.map_nil]; rfl) ?_
        refine (pick_calls w _ w.heap.size 10 m2 HCc.out HBc.out (by omega)).mono ?_
        rintro e w4 ⟨y, rfl, hy, hC4, hB4, hK4⟩
        refine ⟨_, rfl, ?_⟩
        have HY := Aside0.mk hy
        have n0_ := Aside0.mk (hC4)
        have n1_ := Aside0.mk (hB4)
        have n2_ := Aside0.mk (keep_box hK4 BSc.out (by omega))
        have n3_ := Aside0.mk (Kd.C_keep (0 : Int) HLc.out hK4 (fun ad h _ => by cases h; exact HNe.out))
        clear HCc HBc BSc HLc
        have HCc := n0_
        have HBc := n1_
        have BSc := n2_
        have HLc := n3_
        clear n0_ n1_ n2_ n3_
        clear hy hC4 hB4 hK4
        refine hK.out _ _ ((blk_cell BSc.out 0)) (fun hHeld => ?_)
        clear hK K
        refine norm_ (a' := ?_) ?_ ?_
        rotate_left
        · show Act.put _ (some 25) _ = _
          simp only [Act.put, List.setIfInBounds_toArray, List.set_cons_zero, List.set_cons_succ, i64_w, i32_w]
          rfl
        exact norm_ (by first | (simp only [putAll, Act.put, List.setIfInBounds_toArray, List.set_cons_zero, List.set_cons_succ]; done) | (simp only [putAll, Act.put, List.setIfInBounds_toArray, List.set_cons_zero, List.set_cons_succ]; rfl)) (hCont (y, some ⟨_, 0, none⟩) _ ⟨(blk_cell BSc.out 0).trans rfl, HY.out, HLc.out, fun ad h => by cases h; exact HNe.out, HCc.out.up (by omega), HBc.out⟩)
    · skip
      refine value_ (w1 := ?_) (v := ?_) (by rfl) rfl ?_ ?_
      rotate_left 2
      · go_simp
        constructor
        · rfl
        · rfl
      have HNe := Aside0.mk (Nat.ne_of_gt HCc.out.lt)
      have n0_ := Aside0.mk (lit_of HCc.out 3 stepKs (by decide))
      have n1_ := Aside0.mk (HCc.out.alloc (.cells (nums .i64 stepKs).toArray 3 (0, 0)))
      have n2_ := Aside0.mk (below_alloc HBc.out (.cells (nums .i64 stepKs).toArray 3 (0, 0)))
      have n3_ := Aside0.mk (blk_alloc BSc.out (.cells (nums .i64 stepKs).toArray 3 (0, 0)))
      clear HCc HBc BSc
      have HLc := n0_
      have HCc := n1_
      have HBc := n2_
      have BSc := n3_
      clear n0_ n1_ n2_ n3_
      refine hK.out _ _ ((blk_cell BSc.out 0)) (fun hHeld => ?_)
      clear hK K
      refine norm_ (a' := ?_) ?_ ?_
      rotate_left
      · show Act.put _ (some 27) _ = _
        simp only [Act.put, List.setIfInBounds_toArray, List.set_cons_zero, List.set_cons_succ, i64_w, i32_w]
        rfl
      refine one_ (i := 6) (N := some 23) #[true, true, true, true, true, true, true, false, false, true, true, false, false, false, false, false] rfl rfl (by kernel_rfl) (by decide) (fun K hK => ?_)
      refine goes_ Tryz.func58 (by kernel_rfl) rfl #[.int .i64 1, .int .i64 p] (by rfl) rfl rfl (by simp only [List.map_toArray, List.map_cons, List.map_nil]; rfl) ?_
      with_reducible refine (HM.out _).mono ?_
      rintro e w2 ⟨rfl, hd2⟩
      refine ⟨_, rfl, ?_⟩
      have n0_ := Aside0.mk (HCc.out.below hd2.below)
      have n1_ := Aside0.mk (below_step HBc.out hd2.below)
      have n2_ := Aside0.mk (blk_below BSc.out hd2.below)
      have n3_ := Aside0.mk (Kd.C_below HLc.out hd2.below)
      clear HCc HBc BSc HLc
      have HCc := n0_
      have HBc := n1_
      have BSc := n2_
      have HLc := n3_
      clear n0_ n1_ n2_ n3_
      clear hd2
      refine hK.out _ _ ((blk_cell BSc.out 0)) (fun hHeld => ?_)
      clear hK K
      refine norm_ (a' := ?_) ?_ ?_
      rotate_left
      · show Act.put _ (some 23) _ = _
        simp only [Act.put, List.setIfInBounds_toArray, List.set_cons_zero, List.set_cons_succ, i64_w, i32_w]
        rfl
      refine one_ (i := 7) (N := some 24) #[true, true, true, true, true, true, true, true, false, true, true, false, false, false, false, false] rfl rfl (by kernel_rfl) (by decide) (fun K hK => ?_)
      refine goes_ Tryz.func43 (by kernel_rfl) rfl #[.int .i64 16, .int .i64 m1] (by rfl) rfl rfl (by simp only [List.map_toArray, List.map_cons, List.map_nil]; rfl) ?_
      with_reducible refine (HL16.out _).mono ?_
      rintro e w3 ⟨rfl, hd3⟩
      refine ⟨_, rfl, ?_⟩
      have n0_ := Aside0.mk (HCc.out.below hd3.below)
      have n1_ := Aside0.mk (below_step HBc.out hd3.below)
      have n2_ := Aside0.mk (blk_below BSc.out hd3.below)
      have n3_ := Aside0.mk (Kd.C_below HLc.out hd3.below)
      clear HCc HBc BSc HLc
      have HCc := n0_
      have HBc := n1_
      have BSc := n2_
      have HLc := n3_
      clear n0_ n1_ n2_ n3_
      clear hd3
      refine hK.out _ _ ((blk_cell BSc.out 0)) (fun hHeld => ?_)
      clear hK K
      refine norm_ (a' := ?_) ?_ ?_
      rotate_left
      · show Act.put _ (some 24) _ = _
        simp only [Act.put, List.setIfInBounds_toArray, List.set_cons_zero, List.set_cons_succ, i64_w, i32_w]
        rfl
      refine one_ (i := 8) (N := some 25) #[true, true, true, true, true, true, true, true, true, true, true, false, false, false, false, false] rfl rfl (by kernel_rfl) (by decide) (fun K hK => ?_)
      refine goes_ Tryz.func57 (by kernel_rfl) rfl #[.pointer (some ⟨w.heap.size, 0, none⟩), .int .i64 m2] (by rfl) rfl rfl (by simp only [List.map_toArray, List.map_cons, List.map_nil]; rfl) ?_
      refine (pick_calls w _ w.heap.size 10 m2 HCc.out HBc.out (by omega)).mono ?_
      rintro e w4 ⟨y, rfl, hy, hC4, hB4, hK4⟩
      refine ⟨_, rfl, ?_⟩
      have HY := Aside0.mk hy
      have n0_ := Aside0.mk (hC4)
      have n1_ := Aside0.mk (hB4)
      have n2_ := Aside0.mk (keep_box hK4 BSc.out (by omega))
      have n3_ := Aside0.mk (Kd.C_keep (0 : Int) HLc.out hK4 (fun ad h _ => by cases h; exact HNe.out))
      clear HCc HBc BSc HLc
      have HCc := n0_
      have HBc := n1_
      have BSc := n2_
      have HLc := n3_
      clear n0_ n1_ n2_ n3_
      clear hy hC4 hB4 hK4
      refine hK.out _ _ ((blk_cell BSc.out 0)) (fun hHeld => ?_)
      clear hK K
      refine norm_ (a' := ?_) ?_ ?_
      rotate_left
      · show Act.put _ (some 25) _ = _
        simp only [Act.put, List.setIfInBounds_toArray, List.set_cons_zero, List.set_cons_succ, i64_w, i32_w]
        rfl
      exact norm_ (by first | (simp only [putAll, Act.put, List.setIfInBounds_toArray, List.set_cons_zero, List.set_cons_succ]; done) | (simp only [putAll, Act.put, List.setIfInBounds_toArray, List.set_cons_zero, List.set_cons_succ]; rfl)) (hCont (y, some ⟨_, 0, none⟩) _ ⟨(blk_cell BSc.out 0).trans rfl, HY.out, HLc.out, fun ad h => by cases h; exact HNe.out, HCc.out.up (by omega), HBc.out⟩)
  rintro ⟨y, AL⟩ w5 ⟨hHeld, hy, hl, hne, hC5, hB5⟩
  have HY := Aside0.mk hy
  have HLc := Aside0.mk hl
  have HNe := Aside0.mk hne
  have HC5 := Aside0.mk hC5
  have HB5 := Aside0.mk hB5
  clear hy hl hne hC5 hB5
  refine norm_ (a' := ?_) ?_ ?_
  rotate_left
  · simp only [putAll, Act.put, List.setIfInBounds_toArray, List.set_cons_zero, List.set_cons_succ]
    rfl
  refine one_ (i := 11) (N := some 28) #[true, true, true, true, true, true, true, true, true, true, true, true, false, false, false, false] rfl rfl (by kernel_rfl) (by decide) (fun K hK => ?_)
  refine goes_ Tryz.func60 (by kernel_rfl) rfl #[.pointer (some ⟨w.heap.size, 0, none⟩), .slice AL 9 9] (by rfl) rfl rfl (by simp only [List.map_toArray, List.map_cons, List.map_nil]; rfl) ?_
  refine (among_calls w _ w.heap.size 12 AL stepKs HC5.out HB5.out (by omega) HLc.out HNe.out (by decide)).mono ?_
  rintro e w6 ⟨k, rfl, hk, _, hB6, hK6⟩
  refine ⟨_, rfl, ?_⟩
  have HK := Aside0.mk hk
  have HB6 := Aside0.mk hB6
  have hce := keep_cell hK6 hHeld (by show w1.heap.size ≠ w.heap.size; omega)
  clear hk hB6 hK6
  refine hK.out _ _ (hce) (fun hHeld => ?_)
  clear hK K
  refine norm_ (a' := ?_) ?_ ?_
  rotate_left
  · show Act.put _ (some 28) _ = _
    simp only [Act.put, List.setIfInBounds_toArray, List.set_cons_zero, List.set_cons_succ, i64_w, i32_w]
    rfl
  refine pure_ (i := 12) (N := some 2) (v := ?_) (a' := ?_) #[true, true, true, true, true, true, true, true, true, true, true, true, true, false, false, false] rfl rfl (by kernel_rfl) (fun _ _ _ h => h) (Or.inl ⟨by rfl, ?_⟩) ?_ ?_
  rotate_left
  · intro w'
    go_simp
    with_reducible rfl
  rotate_left
  · simp only [Act.put, List.setIfInBounds_toArray, List.set_cons_zero, List.set_cons_succ, i64_w, i32_w]
    rfl
  refine pure_ (i := 13) (N := some 3) (v := ?_) (a' := ?_) #[true, true, true, true, true, true, true, true, true, true, true, true, true, true, false, false] rfl rfl (by kernel_rfl) (fun _ _ _ h => h) (Or.inl ⟨by rfl, ?_⟩) ?_ ?_
  rotate_left
  · intro w'
    go_simp
    with_reducible rfl
  rotate_left
  · simp only [Act.put, List.setIfInBounds_toArray, List.set_cons_zero, List.set_cons_succ, i64_w, i32_w]
    rfl
  refine pure_ (i := 14) (N := some 4) (v := ?_) (a' := ?_) #[true, true, true, true, true, true, true, true, true, true, true, true, true, true, true, false] rfl rfl (by kernel_rfl) (fun _ _ _ h => h) (Or.inl ⟨by rfl, ?_⟩) ?_ ?_
  rotate_left
  · intro w'
    go_simp
    with_reducible rfl
  rotate_left
  · simp only [Act.put, List.setIfInBounds_toArray, List.set_cons_zero, List.set_cons_succ, i64_w, i32_w]
    rfl
  refine pure_ (i := 15) (N := some 5) (v := ?_) (a' := ?_) #[true, true, true, true, true, true, true, true, true, true, true, true, true, true, true, true] rfl rfl (by kernel_rfl) (fun _ _ _ h => h) (Or.inl ⟨by rfl, ?_⟩) ?_ ?_
  rotate_left
  · intro w'
    go_simp
    with_reducible rfl
  rotate_left
  · simp only [Act.put, List.setIfInBounds_toArray, List.set_cons_zero, List.set_cons_succ, i64_w, i32_w]
    rfl
  refine done_ (by kernel_rfl) ?_
  go_wp2
  refine bodyPost_ret (results_list (rs := [.tmp 2, .tmp 3, .tmp 4, .tmp 5]) (vs := [.int .i64 p, .int .i64 x, .int .i64 y, .int .i64 k]) rfl (by simp) (.tmp (.tmp (.tmp (.tmp .nil))))) rfl ?_
  exact ⟨p, x, y, k, rfl, ⟨s, HD.out, HX.out⟩, ⟨HY.out.1, by have := HY.out.2.1 h16.out.1; have := h16.out.2; show y < 16; exact Int.lt_of_lt_of_le (HY.out.2.1 h16.out.1) h16.out.2⟩, HK.out, HB6.out⟩
end Go.Proofs.YthmhfagnenoibaaGreatDoor.X
end
section
namespace Go.Proofs.YthmhfagnenoibaaGreatDoor.X
open Go.RowKit Go.Proofs.YthmhfagnenoibaaGreatDoorW.PrintWords Go.Proofs.YthmhfagnenoibaaGreatDoorW.PrintLast Go.Proofs.YthmhfagnenoibaaGreatDoorW.PrintMore
attribute [local go_sem] max2_int min2_int max_two min_two max_three min_three max_four min_four
set_option linter.unusedVariables false
set_option linter.unusedSimpArgs false
def DrawsStr (B : Nat) (w0 w : World) (g N : Nat) (e : Ending) (w' : World) : Prop := ∃ r : ByteArray, e = .returned (.string r) ∧ r.size ≤ B ∧ Cur w0 w' g N ∧ Below w0.heap.size w0 w' ∧ KeepBut w w' g none
theorem lit_Ck (k : IntKind) (W : World) (e : Nat) (l : List Int) (h1 : l.length ≤ 1000) : Kd.C (Kd.int k) (W.alloc (.cells (nums k l).toArray e (0, 0))) (some ⟨W.heap.size, 0, none⟩) l.length l := by
  refine Kd.C_of_reads (d := (0 : Int)) ⟨rfl, by omega, fun _ => ⟨_, rfl, fun j hj => ?_⟩⟩
  rw [add_plain, blk_cell (blk_new W _) j, List.getD_eq_getElem?_getD, List.getElem?_eq_getElem hj, List.getElem?_toArray, nums, List.getElem?_map, List.getElem?_eq_getElem hj]
  rfl
theorem strOfNums_size (xs : List Int) : (strOfNums xs).size = xs.length := by
  unfold strOfNums
  show (List.toArray _).size = _
  simp
set_option maxHeartbeats 4000000 in
set_option maxRecDepth 100000 in
theorem spoilt_calls (w0 w : World) (g N : Nat) (t with_ : ByteArray) (hC : Cur w0 w g N) (hB : Below w0.heap.size w0 w) (hN : N ≤ 500000) (ht : t.size ≤ 100000) (hw0 : 0 < with_.size) (hw1 : with_.size ≤ 1000) :
    Calls Tryz.prog 64 #[.pointer (some ⟨g, 0, none⟩), .string t, .string with_] w (DrawsStr (t.size + 2) w0 w g (N + 14)) := by
  have HC := Aside0.mk hC
  have HB := Aside0.mk hB
  clear hC hB
  go_enter Tryz.func64, Tryz.ntmps64
  go_wp2_with fail
  refine (pick_calls w0 _ g N 2 HC.out HB.out (by omega)).mono ?_
  rintro e w1 ⟨x, rfl, ⟨hx0, hx1, _⟩, hC1, hB1, hK1⟩
  replace hx1 := hx1 (by omega)
  have HC1 := Aside0.mk hC1
  have HB1 := Aside0.mk hB1
  have HK1 := Aside0.mk hK1
  clear hC1 hB1 hK1 HC HB
  go_wp2_with fail
  go_loopg [1, 7] 2 (fun gg v1 v7 wr => ∃ (u : ByteArray) (m : Nat), v1 = .string u ∧ v7 = .int .i64 (m : Int) ∧ m ≤ 2 ∧ m ≤ gg ∧ u.size + m ≤ t.size + 2 ∧ Aside0 (Cur w0 wr g (N + 14 - 6 * m)) ∧ Aside0 (Below w0.heap.size w0 wr) ∧ Aside0 (KeepBut w wr g none))
  case atStart => exact ⟨t, (1 + x).toNat, rfl, by rw [Int.toNat_of_nonneg (by omega)], by omega, by omega, by omega, ⟨HC1.out.up (by omega)⟩, HB1, HK1⟩
  case round =>
    clear HC1 HB1 HK1
    obtain ⟨u, m, rfl, rfl, hm2, hmg, hum, HC, HB, HK⟩ := hrel
    by_cases hm : 0 < m
    · by_cases hu : 0 < u.size
      · obtain ⟨m, rfl⟩ : ∃ j, m = j + 1 := ⟨m - 1, by omega⟩
        go_wp2_with fail
        refine (pick_calls w0 _ g (N + 14 - 6 * (m + 1)) u.size HC.out HB.out (by omega)).mono ?_
        rintro e w2 ⟨i, rfl, ⟨hi0, hi1, _⟩, hC1, hB1, hK1⟩
        replace hi1 := hi1 (by omega)
        have HC1 := Aside0.mk hC1
        have HB1 := Aside0.mk hB1
        have HK1 := Aside0.mk (HK.out.trans hK1 (.inl rfl))
        clear hC1 hB1 hK1 HC HB HK
        go_wp2_with fail
        refine (pick_calls w0 _ g (N + 14 - 6 * (m + 1) + 2) with_.size HC1.out HB1.out (by omega)).mono ?_
        rintro e w3 ⟨q, rfl, ⟨hq0, hq1, _⟩, hC2, hB2, hK2⟩
        replace hq1 := hq1 (by omega)
        obtain ⟨b, hbb⟩ : ∃ b : Int, ((with_[q.toNat]'(by omega)).toNat : Int) = b := ⟨_, rfl⟩
        have HC2 := Aside0.mk (hC2.alloc (.cells #[.int .u8 b] 5 (0, 0)))
        have HB2 := Aside0.mk (below_alloc hB2 (.cells #[.int .u8 b] 5 (0, 0)))
        have HK2 := Aside0.mk (keep_alloc (HK1.out.trans hK2 (.inl rfl)) (.cells #[.int .u8 b] 5 (0, 0)))
        have hcv : (convert 22 9 (.slice (some ⟨w3.heap.size, 0, none⟩) 1 1)).run Tryz.prog (w3.alloc (.cells #[.int .u8 b] 5 (0, 0))) = .ok (.string (strOfNums [b])) (w3.alloc (.cells #[.int .u8 b] 5 (0, 0))) := Kd.C_string Tryz.underlying22 Tryz.underlying5 Tryz.underlying9 (lit_Ck .u8 w3 5 [b] (by simp))
        have hzs := strOfNums_size [b]
        obtain ⟨z, hz⟩ : ∃ z, strOfNums [b] = z := ⟨_, rfl⟩
        rw [hz] at hzs hcv
        clear hC2 hB2 hK2 HC1 HB1 HK1 hz
        simp only [List.length_cons, List.length_nil] at hzs
        go_wp2_with fail
        clear hcv hbb
        generalize w3.alloc (.cells #[.int .u8 b] 5 (0, 0)) = w4 at HC2 HB2 HK2 ⊢
        refine (pick_calls w0 _ g (N + 14 - 6 * (m + 1) + 4) 3 HC2.out HB2.out (by omega)).mono ?_
        rintro e w5 ⟨c, rfl, ⟨hc0, hc1, _⟩, hC5, hB5, hK5⟩
        replace hc1 := hc1 (by omega)
        have HC5 := Aside0.mk hC5
        have HB5 := Aside0.mk hB5
        have HK5 := Aside0.mk (HK2.out.trans hK5 (.inl rfl))
        clear hC5 hB5 hK5 HC2 HB2 HK2
        have hi0' : i.toNat < u.size := by omega
        have hsz : u.size ≤ 100002 := by omega
        by_cases hca : c = 0
        · have b0 : (c == 0) = true := beq_iff_eq.2 hca
          clear hca
          go_wp2_with fail
          repeat (go_quiet (fail); try go_wp2)
          go_roundg m
          case measure => omega
          case rel => exact ⟨_, m, rfl, by go_num, by omega, by omega, by simp only [ByteArray.size_append, ByteArray.size_extract]; omega, ⟨(HC5.out.drewN _).up (by omega)⟩, ⟨pw_below_drewN HB5.out _⟩, ⟨keep_drewN HK5.out _⟩⟩
        · have b0 : (c == 0) = false := beq_eq_false_iff_ne.2 hca
          by_cases hcb : c = 1
          · have b1 : (c == 1) = true := beq_iff_eq.2 hcb
            clear hca hcb
            go_wp2_with fail
            repeat (go_quiet (fail); try go_wp2)
            go_roundg m
            case measure => omega
            case rel => exact ⟨_, m, rfl, by go_num, by omega, by omega, by simp only [ByteArray.size_append, ByteArray.size_extract]; omega, ⟨(HC5.out.drewN _).up (by omega)⟩, ⟨pw_below_drewN HB5.out _⟩, ⟨keep_drewN HK5.out _⟩⟩
          · have b1 : (c == 1) = false := beq_eq_false_iff_ne.2 hcb
            clear hca hcb
            go_wp2_with fail
            repeat (go_quiet (fail); try go_wp2)
            go_roundg m
            case measure => omega
            case rel => exact ⟨_, m, rfl, by go_num, by omega, by omega, by simp only [ByteArray.size_append, ByteArray.size_extract]; omega, ⟨(HC5.out.drewN _).up (by omega)⟩, ⟨pw_below_drewN HB5.out _⟩, ⟨keep_drewN HK5.out _⟩⟩
      · go_wp2
        go_ret
        exact ⟨u, rfl, by omega, HC.out.up (by omega), HB.out, HK.out⟩
    · go_wp2
      go_ret
      exact ⟨u, rfl, by omega, HC.out.up (by omega), HB.out, HK.out⟩
set_option maxHeartbeats 2000000 in
set_option maxRecDepth 100000 in
theorem drawParseStar_calls (A : Option Addr) (c : Nat) (l : List Int) (w : World) (hl : Kd.C (Kd.int .u8) w A l.length l) (hr : isBytes l) (htx : ∀ p s : Int, 3 ≤ p → p ≤ 14 → 1 ≤ s → s < p → ∃ t : ByteArray, spec_srText.f 10000 p s = some t ∧ t.size ≤ 50) :
    Calls Tryz.prog 34 #[.slice A l.length c] w fun e w' => ∃ t : ByteArray, e = .returned (.string t) ∧ t.size ≤ 100 ∧ Below w.heap.size w w' := by
  have HL := Aside0.mk hl
  have HR := Aside0.mk hr
  have HT := Aside0.mk htx
  clear hl hr htx
  go_enter Tryz.func34, Tryz.ntmps34
  go_wp2_with fail
  refine (sureStar_calls w _ w.heap.size 0 (cur_new (Below.refl _ _) HL.out HR.out rfl) (below_one w _) (by omega)).mono ?_
  rintro e w1 ⟨p, s, rfl, ⟨hp0, hp1, hs0, hs1⟩, hC1, hB1, hK1⟩
  obtain ⟨t, ht, hts⟩ := HT.out p s hp0 hp1 hs0 hs1
  have HC1 := Aside0.mk hC1
  have HB1 := Aside0.mk hB1
  have HTX := Aside0.mk ht
  clear hC1 hB1 hK1 HL HR HT ht
  go_wp2_with fail
  refine (spec_srText.calls 10000 p s t _ HTX.out).mono ?_
  rintro e w2 ⟨rfl, hb⟩
  have HC2 := Aside0.mk (HC1.out.below hb)
  have HB2 := Aside0.mk (below_step HB1.out hb)
  clear hb HC1 HB1
  go_wp2_with fail
  refine (one_calls w _ w.heap.size 4 3 (HC2.out.up (by omega)) HB2.out (by omega)).mono ?_
  rintro e w3 ⟨z, rfl, hC3, hB3, hK3⟩
  have HC3 := Aside0.mk hC3
  have HB3 := Aside0.mk hB3
  clear hC3 hB3 hK3 HC2 HB2
  cases z with
  | false =>
    go_wp2
    go_ret
    exact ⟨t, rfl, by omega, HB3.out⟩
  | true =>
    go_wp2_with fail
    refine (spoilt_calls w w3 w.heap.size 6 t ⟨#[48, 49, 50, 51, 123, 47, 125, 120]⟩ HC3.out HB3.out (by omega) (by omega) (by decide) (by decide)).mono ?_
    rintro e w4 ⟨r, rfl, hrs, _, hB4, _⟩
    have HB4 := Aside0.mk hB4
    clear hB4
    go_wp2
    go_ret
    exact ⟨r, rfl, by omega, HB4.out⟩
end Go.Proofs.YthmhfagnenoibaaGreatDoor.X
end
section
namespace Go.Proofs.YthmhfagnenoibaaGreatDoor.X
open Go.RowKit Go.Proofs.YthmhfagnenoibaaGreatDoorW.PrintWords Go.Proofs.YthmhfagnenoibaaGreatDoorW.PrintLast Go.Proofs.YthmhfagnenoibaaGreatDoorW.PrintMore
attribute [local go_sem] max2_int min2_int max_two min_two max_three min_three max_four min_four
set_option linter.unusedVariables false
set_option linter.unusedSimpArgs false
structure StrVal (n s : Int) (R : List (List Int)) (b : Bool) (cnt tu sm : Int) (tx : ByteArray) : Prop where
  si : impl_StringsOf.f 10000 n s = some (R, b)
  ss : spec_StringsOf.f 10000 n s = some (R, b)
  ni : impl_CountStrings.f 10000 n s = some (cnt, b)
  ns : spec_CountStrings.f 10000 n s = some (cnt, b)
  ti : impl_TurnsOf.f 10000 n s = some (tu, b)
  ts : spec_TurnsOf.f 10000 n s = some (tu, b)
  mi : impl_SmallStep.f n s = some (sm, b)
  ms : spec_SmallStep.f n s = some (sm, b)
  xi : impl_StarText.f n s = some (tx, b)
  xs : spec_StarText.f 10000 n s = some (tx, b)
  ii : impl_IsStar.f n s = some b
  is : spec_IsStar.f n s = some b
  uu : laws_uRows.f 10000 R R = some true
structure PtOk (n s i : Int) (l : List Int) (k : Nat) : Prop where
  rng : 0 ≤ rd l (k : Int) ∧ rd l (k : Int) < n
  nx : impl_NextPoint.f n s (rd l (k : Int)) = some (rd l (Int.tmod ((k : Int) + 1) (l.length : Int)), true)
  pa : impl_PointAfter.f n s i (k : Int) = some (rd l (k : Int), true)
  sb : impl_StepsBetween.f 10000 n s i (rd l (k : Int)) = some ((k : Int), true)
structure RowOk (n s tu : Int) (l : List Int) (i : Nat) : Prop where
  len : 2 ≤ l.length ∧ l.length ≤ 60
  first : rd l 0 = (i : Int)
  mul : (l.length : Int) * s = tu * n
  pt : ∀ k : Nat, k < l.length → PtOk n s (i : Int) l k
structure StrOk (n s : Int) (R : List (List Int)) (cnt tu sm : Int) (tx : ByteArray) : Prop where
  hn : 3 ≤ n ∧ n ≤ 60 ∧ 1 ≤ s ∧ s < n
  pa : impl_ParseStar.f tx = some (n, s, true)
  cn : (R.length : Int) = cnt
  rl : R.length ≤ 60
  row : ∀ i : Nat, i < R.length → RowOk n s tu (rd_L2 R (i : Int)) i
  tot : (R.flatten.length : Int) = n
  nd : R.flatten.Nodup
  smb : 0 ≤ sm ∧ sm ≤ s ∧ 2 * sm ≤ n
structure PtVal (n s x : Int) (L : List Int) (y : Bool) (nx : Int) : Prop where
  len : L.length ≤ 60
  li : impl_StringOf.f 10000 n s x = some (L, y)
  ls : spec_StringOf.f 10000 n s x = some (L, y)
  ni : impl_NextPoint.f n s x = some (nx, y)
  ns : spec_NextPoint.f n s x = some (nx, y)
  uu : laws_uSame.f 10000 L L = some true
structure StepsVal (n s x y : Int) (r : Int) (b : Bool) : Prop where
  im : impl_StepsBetween.f 10000 n s x y = some (r, b)
  sp : spec_StepsBetween.f 10000 n s x y = some (r, b)
  back : b = true → impl_PointAfter.f n s x r = some (y, true)
structure ToVal (p x y k : Int) (r : Int) (b : Bool) : Prop where
  im : impl_StepTo.f 10000 p x y k = some (r, b)
  sp : spec_StepTo.f 10000 p x y k = some (r, b)
  ends : b = true → impl_PointAfter.f p r x k = some (y, true)
  less : b = true → r ≤ 60 ∧ ∀ l : Int, 1 ≤ l → l < r → ∃ e, impl_PointAfter.f p l x k = some (e, true) ∧ e ≠ y
structure AfterVal (n s x k : Int) (r : Int) (b : Bool) : Prop where
  im : impl_PointAfter.f n s x k = some (r, b)
  sp : spec_PointAfter.f n s x k = some (r, b)
structure ReadVal (t : ByteArray) (p s : Int) (b : Bool) : Prop where
  im : impl_ParseStar.f t = some (p, s, b)
  sp : spec_ParseStar.f 10000 t = some (p, s, b)
  back : b = true → impl_StarText.f p s = some (t, true)
def flagsL (N : Nat) (L : List Int) : List Bool := (List.range N).map fun (q : Nat) => decide ((q : Int) ∈ L)
theorem flagsL_len (N : Nat) (L : List Int) : (flagsL N L).length = N := by unfold flagsL; simp
theorem flagsL_nil (N : Nat) : flagsL N [] = List.replicate N false := by
  unfold flagsL
  apply List.ext_getElem
  · simp
  · intro i h1 h2
    simp
theorem flagsL_rd (N : Nat) (L : List Int) (q : Int) (h0 : 0 ≤ q) (h1 : q < N) : rdOf false (flagsL N L) q = decide (q ∈ L) := by
  unfold rdOf flagsL
  rw [List.getD_eq_getElem?_getD, List.getElem?_map, List.getElem?_range (by omega)]
  simp
  rw [Int.max_eq_left h0]
theorem flagsL_put (N : Nat) (L : List Int) (q : Int) (h0 : 0 ≤ q) : (flagsL N L).set q.toNat true = flagsL N (L ++ [q]) := by
  apply List.ext_getElem
  · simp [flagsL_len]
  · intro i h1 h2
    rw [List.getElem_set]
    unfold flagsL
    simp only [List.getElem_map, List.getElem_range, List.mem_append, List.mem_singleton]
    by_cases e : q.toNat = i
    · rw [if_pos e]
      exact (decide_eq_true (Or.inr (by omega))).symm
    · rw [if_neg e]
      have hne : ¬ ((i : Int) = q) := by omega
      simp [hne]
theorem take_rd (l : List Int) (j : Nat) (hj : j < l.length) : l.take (j + 1) = l.take j ++ [rd l (j : Int)] := by
  rw [List.take_succ_eq_append_getElem hj]
  unfold rd
  rw [Int.toNat_natCast, List.getD_eq_getElem?_getD, List.getElem?_eq_getElem hj, Option.getD_some]
theorem take_rdL (l : List (List Int)) (j : Nat) (hj : j < l.length) : (l.take (j + 1)).flatten = (l.take j).flatten ++ rd_L2 l (j : Int) := by
  rw [List.take_succ_eq_append_getElem hj]
  unfold rd_L2
  rw [Int.toNat_natCast, List.getD_eq_getElem?_getD, List.getElem?_eq_getElem hj, Option.getD_some, List.flatten_append]
  simp
theorem not_told (R : List (List Int)) (hnd : R.flatten.Nodup) (i j : Nat) (hi : i < R.length) (hj : j < (rd_L2 R (i : Int)).length) : ¬ rd (rd_L2 R (i : Int)) (j : Int) ∈ (R.take i).flatten ++ (rd_L2 R (i : Int)).take j := by
  have h1 : R.flatten = ((R.take i).flatten ++ (rd_L2 R (i : Int)).take (j + 1)) ++ ((rd_L2 R (i : Int)).drop (j + 1) ++ (R.drop (i + 1)).flatten) := by
    have e1 : R = R.take (i + 1) ++ R.drop (i + 1) := (List.take_append_drop _ _).symm
    conv => lhs; rw [e1]
    rw [List.flatten_append, take_rdL R i hi]
    conv => lhs; rw [← List.take_append_drop (j + 1) (rd_L2 R (i : Int))]
    simp only [List.append_assoc]
  rw [h1, take_rd _ j hj, ← List.append_assoc ((R.take i).flatten)] at hnd
  have h2 := (List.nodup_append.mp (List.nodup_append.mp hnd).1).2.2
  intro hm
  exact h2 _ hm _ (List.mem_singleton.mpr rfl) rfl
theorem told_len (R : List (List Int)) (i : Nat) : ((R.take i).flatten).length ≤ R.flatten.length := by
  conv => rhs; rw [← List.take_append_drop i R]
  rw [List.flatten_append, List.length_append]
  omega
theorem infoBool : (Tryz.prog.info? 4).map (fun i => (i.zero, i.size, i.bytes)) = some (some (.bool false), 1, 1) := by kernel_rfl
end Go.Proofs.YthmhfagnenoibaaGreatDoor.X
end
section
namespace Go.Proofs.YthmhfagnenoibaaGreatDoor.Q
open Go.RowKit Go.Proofs.YthmhfagnenoibaaGreatDoor.X Go.Proofs.YthmhfagnenoibaaGreatDoorW.PrintWords Go.Proofs.YthmhfagnenoibaaGreatDoorW.PrintLast Go.Proofs.YthmhfagnenoibaaGreatDoorW.PrintMore
set_option linter.unusedVariables false
set_option linter.unusedSimpArgs false
theorem wrap64_id {x : Int} (h0 : -9223372036854775808 ≤ x) (h1 : x ≤ 9223372036854775807) : wrap64 x = x := by unfold wrap64; omega
end Go.Proofs.YthmhfagnenoibaaGreatDoor.Q
end
section
namespace Go.Proofs.YthmhfagnenoibaaGreatDoor.Q
open Go.RowKit Go.Proofs.YthmhfagnenoibaaGreatDoor.X Go.Proofs.YthmhfagnenoibaaGreatDoorW.PrintWords Go.Proofs.YthmhfagnenoibaaGreatDoorW.PrintLast Go.Proofs.YthmhfagnenoibaaGreatDoorW.PrintMore
set_option linter.unusedVariables false
set_option linter.unusedSimpArgs false
theorem l1In_eq (a b c : Int) : spec_l1In.f a b c = some (decide (b ≤ a ∧ a ≤ c)) := by
  unfold spec_l1In.f
  by_cases h : a ≥ b
  · rw [if_pos h]; exact congrArg some (decide_eq_decide.2 (by omega))
  · rw [if_neg h]; exact congrArg some (decide_eq_false (by omega)).symm
theorem within_eq (a b c : Int) : impl_within.f a b c = some (decide (b ≤ a ∧ a ≤ c)) := by
  unfold impl_within.f
  by_cases h : a ≥ b
  · rw [if_pos h]; exact congrArg some (decide_eq_decide.2 (by omega))
  · rw [if_neg h]; exact congrArg some (decide_eq_false (by omega)).symm
theorem srPoints_eq (a : Int) : spec_srPoints.f a = some (decide (3 ≤ a ∧ a ≤ 60)) := by
  unfold spec_srPoints.f; rw [l1In_eq]; rfl
theorem isCircle_eq (a : Int) : impl_isCircle.f a = some (decide (3 ≤ a ∧ a ≤ 60)) := by
  unfold impl_isCircle.f; rw [within_eq]; rfl
end Go.Proofs.YthmhfagnenoibaaGreatDoor.Q
end
section
namespace Go.Proofs.YthmhfagnenoibaaGreatDoor.Q
open Go.RowKit Go.Proofs.YthmhfagnenoibaaGreatDoor.X Go.Proofs.YthmhfagnenoibaaGreatDoorW.PrintWords Go.Proofs.YthmhfagnenoibaaGreatDoorW.PrintLast Go.Proofs.YthmhfagnenoibaaGreatDoorW.PrintMore
set_option linter.unusedVariables false
set_option linter.unusedSimpArgs false
def isStar (p s : Int) : Prop := 3 ≤ p ∧ p ≤ 60 ∧ 1 ≤ s ∧ s < p
instance (p s : Int) : Decidable (isStar p s) := by unfold isStar; infer_instance
theorem srGood_eq (p s : Int) : spec_srGood.f p s = some (decide (isStar p s)) := by
  unfold spec_srGood.f isStar
  rw [srPoints_eq]
  simp only [Option.bind_some]
  by_cases h : 3 ≤ p ∧ p ≤ 60
  · rw [if_pos (by simpa using h), l1In_eq]
    simp only [Option.bind_some]
    rw [wrap64_id (by omega) (by omega)]
    exact congrArg some (decide_eq_decide.2 (by omega))
  · rw [if_neg (by simpa using h)]
    exact congrArg some (decide_eq_false (by omega)).symm
theorem implIsStar_eq (p s : Int) : impl_IsStar.f p s = some (decide (isStar p s)) := by
  unfold impl_IsStar.f isStar
  rw [isCircle_eq]
  simp only [Option.bind_some]
  by_cases h : 3 ≤ p ∧ p ≤ 60
  · rw [if_pos (by simpa using h), within_eq]
    simp only [Option.bind_some]
    rw [wrap64_id (by omega) (by omega)]
    exact congrArg some (decide_eq_decide.2 (by omega))
  · rw [if_neg (by simpa using h)]
    exact congrArg some (decide_eq_false (by omega)).symm
end Go.Proofs.YthmhfagnenoibaaGreatDoor.Q
end
section
namespace Go.Proofs.YthmhfagnenoibaaGreatDoor.Q
open Go.RowKit Go.Proofs.YthmhfagnenoibaaGreatDoor.X Go.Proofs.YthmhfagnenoibaaGreatDoorW.PrintWords Go.Proofs.YthmhfagnenoibaaGreatDoorW.PrintLast Go.Proofs.YthmhfagnenoibaaGreatDoorW.PrintMore
set_option linter.unusedVariables false
set_option linter.unusedSimpArgs false
theorem srAsked_eq (p s a : Int) : spec_srAsked.f p s a = some (decide (isStar p s ∧ 0 ≤ a ∧ a < p)) := by
  unfold spec_srAsked.f
  rw [srGood_eq]
  simp only [Option.bind_some]
  by_cases h : isStar p s
  · rw [if_pos (decide_eq_true h), l1In_eq]
    have h' := h
    unfold isStar at h'
    rw [wrap64_id (by omega) (by omega)]
    simp only [Option.bind_some]
    refine congrArg some (decide_eq_decide.2 ?_)
    constructor
    · rintro ⟨x, y⟩; exact ⟨h, x, by omega⟩
    · rintro ⟨_, x, y⟩; exact ⟨x, by omega⟩
  · rw [if_neg (by simpa using h)]
    exact congrArg some (decide_eq_false (fun x => h x.1)).symm
theorem isPoint_eq1 (p s a : Int) : impl_isPoint.f p s [a] = some (decide (isStar p s ∧ 0 ≤ a ∧ a < p)) := by
  unfold impl_isPoint.f impl_isPoint.b
  rw [if_pos (by simp)]
  refine congrArg some ?_
  rw [Bool.eq_iff_iff, decide_eq_true_eq]
  unfold isStar
  simp
theorem isPoint_eq2 (p s a b : Int) : impl_isPoint.f p s [a, b] = some (decide (isStar p s ∧ (0 ≤ a ∧ a < p) ∧ 0 ≤ b ∧ b < p)) := by
  unfold impl_isPoint.f impl_isPoint.b
  rw [if_pos (by simp)]
  refine congrArg some ?_
  rw [Bool.eq_iff_iff, decide_eq_true_eq]
  unfold isStar
  simp
end Go.Proofs.YthmhfagnenoibaaGreatDoor.Q
end
section
namespace Go.Proofs.YthmhfagnenoibaaGreatDoor.Q
open Go.RowKit Go.Proofs.YthmhfagnenoibaaGreatDoor.X Go.Proofs.YthmhfagnenoibaaGreatDoorW.PrintWords Go.Proofs.YthmhfagnenoibaaGreatDoorW.PrintLast Go.Proofs.YthmhfagnenoibaaGreatDoorW.PrintMore
set_option linter.unusedVariables false
set_option linter.unusedSimpArgs false
theorem common_same : ∀ (k : Nat) (a b : Int), spec_srCommon.l0 k a b = impl_divisor.l0 k a b
  | 0, _, _ => by simp only [spec_srCommon.l0, impl_divisor.l0]
  | k + 1, a, b => by simp only [spec_srCommon.l0, impl_divisor.l0, common_same k]
theorem gcd_emod_swap (a b : Int) : Int.gcd b (a % b) = Int.gcd a b := by
  rw [Int.gcd_comm a b, Int.emod_def, show a - b * (a / b) = a + (-(a / b)) * b by rw [Int.sub_eq_add_neg, Int.neg_mul, Int.mul_comm b], Int.gcd_add_mul_right_right]
theorem divisor_gcd (d : Nat) : ∀ (k : Nat) (a b : Int), 0 ≤ a → 0 ≤ b → b.toNat ≤ d → d < k → impl_divisor.l0 k a b = some ((Int.gcd a b : Nat) : Int) := by
  induction d with
  | zero =>
    intro k a b ha hb hd hk
    obtain ⟨k, rfl⟩ : ∃ m, k = m + 1 := ⟨k - 1, by omega⟩
    obtain rfl : b = 0 := by omega
    simp only [impl_divisor.l0]
    rw [if_neg (by omega)]
    simp [Int.gcd]
    omega
  | succ d ih =>
    intro k a b ha hb hd hk
    obtain ⟨k, rfl⟩ : ∃ m, k = m + 1 := ⟨k - 1, by omega⟩
    simp only [impl_divisor.l0]
    by_cases h : b > 0
    · rw [if_pos h, if_neg (by omega)]
      have hm : Int.tmod a b = a % b := Int.tmod_eq_emod_of_nonneg ha
      rw [hm]
      have h1 := Int.emod_nonneg a (show b ≠ 0 by omega)
      have h2 := Int.emod_lt_of_pos a h
      rw [ih k b (a % b) hb h1 (by omega) (by omega)]
      rw [gcd_emod_swap]
    · obtain rfl : b = 0 := by omega
      rw [if_neg h]
      simp [Int.gcd]
      omega
theorem divisor_eq (k : Nat) (a b : Int) (ha : 0 ≤ a) (hb : 0 ≤ b) (hk : b.toNat < k) : impl_divisor.f k a b = some ((Int.gcd a b : Nat) : Int) := by
  unfold impl_divisor.f; exact divisor_gcd b.toNat k a b ha hb (Nat.le_refl _) hk
theorem common_eq (k : Nat) (a b : Int) (ha : 0 ≤ a) (hb : 0 ≤ b) (hk : b.toNat < k) : spec_srCommon.f k a b = some ((Int.gcd a b : Nat) : Int) := by
  unfold spec_srCommon.f; rw [common_same]; exact divisor_gcd b.toNat k a b ha hb (Nat.le_refl _) hk
theorem strings_eq (k : Nat) (a b : Int) (ha : 0 ≤ a) (hb : 0 ≤ b) (hk : b.toNat < k) : impl_Star_strings.f k a b = some ((Int.gcd a b : Nat) : Int) := by
  unfold impl_Star_strings.f; rw [divisor_eq k a b ha hb hk]; rfl
end Go.Proofs.YthmhfagnenoibaaGreatDoor.Q
end
section
namespace Go.Proofs.YthmhfagnenoibaaGreatDoor.Q
open Go.RowKit Go.Proofs.YthmhfagnenoibaaGreatDoor.X Go.Proofs.YthmhfagnenoibaaGreatDoorW.PrintWords Go.Proofs.YthmhfagnenoibaaGreatDoorW.PrintLast Go.Proofs.YthmhfagnenoibaaGreatDoorW.PrintMore
set_option linter.unusedVariables false
set_option linter.unusedSimpArgs false
theorem mod_back (p q n : Int) (hp : 0 ≤ p) (hn : p < n) : (p + q) % n = p ↔ q % n = 0 := by
  constructor
  · intro h
    have h1 : (p + q) % n = p % n := by rw [h, Int.emod_eq_of_lt hp hn]
    have h2 := Int.emod_eq_emod_iff_emod_sub_eq_zero.1 h1
    rwa [show p + q - p = q by omega] at h2
  · intro h
    have h1 := Int.emod_eq_emod_iff_emod_sub_eq_zero (m := p + q) (n := n) (k := p) |>.2 (by rwa [show p + q - p = q by omega])
    rw [h1, Int.emod_eq_of_lt hp hn]
theorem least_of (P : Nat → Prop) [DecidablePred P] (n : Nat) (h1 : 1 ≤ n) (hn : P n) : ∃ m, 1 ≤ m ∧ m ≤ n ∧ P m ∧ ∀ i, 1 ≤ i → i < m → ¬ P i := by
  induction n using Nat.strongRecOn with
  | _ n ih =>
    by_cases h : ∃ i, 1 ≤ i ∧ i < n ∧ P i
    · obtain ⟨i, hi1, hi2, hi3⟩ := h
      obtain ⟨m, a, b, c, d⟩ := ih i hi2 hi1 hi3
      exact ⟨m, a, by omega, c, d⟩
    · exact ⟨n, h1, Nat.le_refl _, hn, fun i hi hlt hP => h ⟨i, hi, hlt, hP⟩⟩
theorem string_same : ∀ (k : Nat) (p : Int) (acc : List Int) (x n s : Int), spec_srString.l0 k p acc x n s = impl_Star_stringOf.l0 k p acc x n s
  | 0, _, _, _, _, _ => by simp only [spec_srString.l0, impl_Star_stringOf.l0]
  | k + 1, p, acc, x, n, s => by simp only [spec_srString.l0, impl_Star_stringOf.l0, string_same k]
theorem srString_same (k : Nat) (n s p : Int) : spec_srString.f k n s p = impl_Star_stringOf.f k n s p := by
  unfold spec_srString.f impl_Star_stringOf.f
  simp only [string_same]
def strL (n s p : Int) (m : Nat) : List Int := (List.range m).map fun (i : Nat) => (p + (i : Int) * s) % n
def Around (n s : Int) (m : Nat) : Prop := 1 ≤ m ∧ (m : Int) ≤ n ∧ ((m : Int) * s) % n = 0 ∧ ∀ i : Nat, 1 ≤ i → i < m → ¬ ((i : Int) * s) % n = 0
theorem around_ex (n s : Int) (hn : 3 ≤ n) : ∃ m, Around n s m := by
  obtain ⟨m, h1, h2, h3, h4⟩ := least_of (fun m => ((m : Int) * s) % n = 0) n.toNat (by omega) (by
    show ((n.toNat : Int) * s) % n = 0
    rw [Int.toNat_of_nonneg (by omega)]
    exact Int.mul_emod_right n s)
  exact ⟨m, h1, by omega, h3, h4⟩
theorem strL_succ (n s p : Int) (m : Nat) : strL n s p (m + 1) = strL n s p m ++ [(p + (m : Int) * s) % n] := by
  unfold strL; rw [List.range_succ, List.map_append]; rfl
theorem strL_len (n s p : Int) (m : Nat) : (strL n s p m).length = m := by unfold strL; simp
theorem stringOf_loop (n s p : Int) (m : Nat) (hs : isStar n s) (hp : 0 ≤ p ∧ p < n) (hA : Around n s m) (d : Nat) : ∀ (k j : Nat), 1 ≤ j → j ≤ m → m - j = d → d < k →
    impl_Star_stringOf.l0 k p (strL n s p j) ((p + (j : Int) * s) % n) n s = some (strL n s p m) := by
  unfold isStar at hs
  obtain ⟨a1, a2, a3, a4⟩ := hA
  induction d with
  | zero =>
    intro k j h1 h2 hd hk
    obtain ⟨k, rfl⟩ : ∃ t, k = t + 1 := ⟨k - 1, by omega⟩
    obtain rfl : j = m := by omega
    simp only [impl_Star_stringOf.l0]
    rw [if_pos ((mod_back p _ n hp.1 hp.2).2 a3)]
  | succ d ih =>
    intro k j h1 h2 hd hk
    obtain ⟨k, rfl⟩ : ∃ t, k = t + 1 := ⟨k - 1, by omega⟩
    simp only [impl_Star_stringOf.l0]
    have h3 := a4 j h1 (by omega)
    have b1 := Int.emod_nonneg (p + (j : Int) * s) (show n ≠ 0 by omega)
    have b2 := Int.emod_lt_of_pos (p + (j : Int) * s) (show 0 < n by omega)
    rw [if_neg (fun e => h3 ((mod_back p _ n hp.1 hp.2).1 e)), if_pos (by rw [strL_len]; omega), if_neg (by omega), wrap64_id (by omega) (by omega)]
    have e : Int.tmod ((p + (j : Int) * s) % n + s) n = (p + ((j + 1 : Nat) : Int) * s) % n := by
      rw [Int.tmod_eq_emod_of_nonneg (by omega), Int.emod_add_emod]
      congr 1
      rw [Int.natCast_add, Int.add_mul]
      omega
    rw [e, ← strL_succ]
    exact ih k (j + 1) (by omega) (by omega) (by omega) (by omega)
theorem stringOf_eq (n s p : Int) (m : Nat) (hs : isStar n s) (hp : 0 ≤ p ∧ p < n) (hA : Around n s m) (k : Nat) (hk : 61 ≤ k) : impl_Star_stringOf.f k n s p = some (strL n s p m) := by
  have hs' := hs
  unfold isStar at hs'
  have hm := hA.2.1
  have hm1 := hA.1
  unfold impl_Star_stringOf.f
  rw [if_neg (by omega), wrap64_id (by omega) (by omega)]
  have e : Int.tmod (p + s) n = (p + ((1 : Nat) : Int) * s) % n := by
    rw [Int.tmod_eq_emod_of_nonneg (by omega)]
    congr 1
    omega
  have e1 : ([p] : List Int) = strL n s p 1 := by
    unfold strL
    simp
    rw [Int.emod_eq_of_lt hp.1 hp.2]
  rw [e, e1]
  exact stringOf_loop n s p m hs hp hA (m - 1) k 1 (by omega) (by omega) rfl (by omega)
theorem srString_eq (n s p : Int) (m : Nat) (hs : isStar n s) (hp : 0 ≤ p ∧ p < n) (hA : Around n s m) (k : Nat) (hk : 61 ≤ k) : spec_srString.f k n s p = some (strL n s p m) := by
  rw [srString_same]; exact stringOf_eq n s p m hs hp hA k hk
end Go.Proofs.YthmhfagnenoibaaGreatDoor.Q
end
section
namespace Go.Proofs.YthmhfagnenoibaaGreatDoor.Q
open Go.RowKit Go.Proofs.YthmhfagnenoibaaGreatDoor.X Go.Proofs.YthmhfagnenoibaaGreatDoorW.PrintWords Go.Proofs.YthmhfagnenoibaaGreatDoorW.PrintLast Go.Proofs.YthmhfagnenoibaaGreatDoorW.PrintMore
set_option linter.unusedVariables false
set_option linter.unusedSimpArgs false
def strsL (n s : Int) (m g : Nat) : List (List Int) := (List.range g).map fun (i : Nat) => strL n s (i : Int) m
theorem strsL_snoc (n s : Int) (m i : Nat) : strsL n s m (i + 1) = strsL n s m i ++ [strL n s (i : Int) m] := by
  unfold strsL
  rw [List.range_succ, List.map_append]
  rfl
theorem strsL_len (n s : Int) (m g : Nat) : (strsL n s m g).length = g := by unfold strsL; simp
theorem specStrings_loop (n s : Int) (m g : Nat) (hs : isStar n s) (hA : Around n s m) (hg : (Int.gcd n s : Nat) = g) (hgn : (g : Int) < n) (d : Nat) : ∀ (k i : Nat), i + d = g → 200 + d < k →
    spec_StringsOf.l0 k (strsL n s m i) (i : Int) n s = some (strsL n s m g, true) := by
  have hs' := hs
  unfold isStar at hs'
  induction d with
  | zero =>
    intro k i hi hk
    obtain ⟨k, rfl⟩ : ∃ t, k = t + 1 := ⟨k - 1, by omega⟩
    simp only [spec_StringsOf.l0]
    rw [common_eq k n s (by omega) (by omega) (by omega), Option.bind_some, hg, if_neg (by omega), show i = g by omega]
  | succ d ih =>
    intro k i hi hk
    obtain ⟨k, rfl⟩ : ∃ t, k = t + 1 := ⟨k - 1, by omega⟩
    have e1 : wrap64 ((i : Int) + 1) = ((i + 1 : Nat) : Int) := by rw [wrap64_id (by omega) (by omega)]; rfl
    have hl := strsL_len n s m i
    simp only [spec_StringsOf.l0]
    rw [common_eq k n s (by omega) (by omega) (by omega), Option.bind_some, hg, if_pos (by omega), srString_eq n s (i : Int) m hs ⟨by omega, by omega⟩ hA k (by omega), Option.bind_some, if_pos (by omega), ← strsL_snoc, e1]
    exact ih k (i + 1) (by omega) (by omega)
theorem implStrings_loop (n s : Int) (m g : Nat) (hs : isStar n s) (hA : Around n s m) (hgn : (g : Int) < n) (d : Nat) : ∀ (k i : Nat), i + d = g → 200 + d < k →
    impl_StringsOf.l0 k (strsL n s m i) (g : Int) (i : Int) n s = some (strsL n s m g, true) := by
  have hs' := hs
  unfold isStar at hs'
  induction d with
  | zero =>
    intro k i hi hk
    obtain ⟨k, rfl⟩ : ∃ t, k = t + 1 := ⟨k - 1, by omega⟩
    simp only [impl_StringsOf.l0]
    rw [if_neg (by omega), show i = g by omega]
  | succ d ih =>
    intro k i hi hk
    obtain ⟨k, rfl⟩ : ∃ t, k = t + 1 := ⟨k - 1, by omega⟩
    have e1 : wrap64 ((i : Int) + 1) = ((i + 1 : Nat) : Int) := by rw [wrap64_id (by omega) (by omega)]; rfl
    have hl := strsL_len n s m i
    simp only [impl_StringsOf.l0]
    rw [if_pos (by omega), stringOf_eq n s (i : Int) m hs ⟨by omega, by omega⟩ hA k (by omega), Option.bind_some, if_pos (by omega), ← strsL_snoc, e1]
    exact ih k (i + 1) (by omega) (by omega)
end Go.Proofs.YthmhfagnenoibaaGreatDoor.Q
end
section
namespace Go.Proofs.YthmhfagnenoibaaGreatDoor.Q
open Go.RowKit Go.Proofs.YthmhfagnenoibaaGreatDoor.X Go.Proofs.YthmhfagnenoibaaGreatDoorW.PrintWords Go.Proofs.YthmhfagnenoibaaGreatDoorW.PrintLast Go.Proofs.YthmhfagnenoibaaGreatDoorW.PrintMore
set_option linter.unusedVariables false
set_option linter.unusedSimpArgs false
theorem around_mul (n s : Int) (m : Nat) (hs : isStar n s) (hA : Around n s m) : m * Int.gcd n s = n.toNat := by
  obtain ⟨a1, a2, a3, a4⟩ := hA
  unfold isStar at hs
  obtain ⟨N, rfl⟩ : ∃ N : Nat, n = (N : Int) := ⟨n.toNat, by omega⟩
  obtain ⟨S, rfl⟩ : ∃ S : Nat, s = (S : Int) := ⟨s.toNat, by omega⟩
  have hg : Int.gcd (N : Int) (S : Int) = Nat.gcd N S := rfl
  rw [hg, Int.toNat_natCast]
  have b3 : N ∣ m * S := by
    have h := Int.dvd_of_emod_eq_zero a3
    exact_mod_cast h
  have b4 : ∀ i : Nat, 1 ≤ i → i < m → ¬ N ∣ i * S := fun i h1 h2 h3 => a4 i h1 h2 (Int.emod_eq_zero_of_dvd (by exact_mod_cast h3))
  have hgp : 0 < Nat.gcd N S := Nat.gcd_pos_of_pos_left _ (by omega)
  have hc := Nat.coprime_div_gcd_div_gcd hgp
  obtain ⟨x, hx⟩ := Nat.gcd_dvd_left N S
  obtain ⟨y, hy⟩ := Nat.gcd_dvd_right N S
  generalize Nat.gcd N S = G at *
  have ex : N / G = x := by rw [hx]; exact Nat.mul_div_cancel_left _ hgp
  have ey : S / G = y := by rw [hy]; exact Nat.mul_div_cancel_left _ hgp
  rw [ex, ey] at hc
  have d1 : x ∣ m := by
    have h1 : G * x ∣ G * (m * y) := by
      rw [← hx, show G * (m * y) = m * S by rw [hy]; exact Nat.mul_left_comm ..]
      exact b3
    exact hc.dvd_of_dvd_mul_right (Nat.dvd_of_mul_dvd_mul_left hgp h1)
  have hxp : 1 ≤ x := by
    rcases Nat.eq_zero_or_pos x with h | h
    · rw [h] at hx; omega
    · exact h
  have d2 : ¬ x < m := fun hlt => b4 x hxp hlt ⟨y, by rw [hx, hy, ← Nat.mul_assoc, Nat.mul_comm x G]⟩
  obtain rfl : m = x := by
    have := Nat.le_of_dvd (by omega) d1
    omega
  rw [hx, Nat.mul_comm]
theorem str_inj (n s : Int) (m : Nat) (hs : isStar n s) (hA : Around n s m) (a b i j : Nat) (ha : a < Int.gcd n s) (hb : b < Int.gcd n s) (hi : i < m) (hj : j < m) (e : ((a : Int) + (i : Int) * s) % n = ((b : Int) + (j : Int) * s) % n) : a = b ∧ i = j := by
  have hg1 := Int.gcd_dvd_left n s
  have hg2 := Int.gcd_dvd_right n s
  have h1 := Int.emod_eq_emod_iff_emod_sub_eq_zero.1 e
  have h2 := Int.dvd_of_emod_eq_zero h1
  have h3 : ((Int.gcd n s : Nat) : Int) ∣ (a : Int) - b := by
    have h4 := Int.dvd_trans hg1 h2
    have h5 : ((Int.gcd n s : Nat) : Int) ∣ ((i : Int) - j) * s := Int.dvd_trans hg2 (Int.dvd_mul_left ..)
    have h6 := Int.dvd_sub h4 h5
    have e2 : (a : Int) + (i : Int) * s - ((b : Int) + (j : Int) * s) - ((i : Int) - j) * s = (a : Int) - b := by rw [Int.sub_mul]; omega
    rwa [e2] at h6
  have hab : a = b := by
    have h7 : (a : Int) % (Int.gcd n s : Nat) = (b : Int) % (Int.gcd n s : Nat) := Int.emod_eq_emod_iff_emod_sub_eq_zero.2 (Int.emod_eq_zero_of_dvd h3)
    rw [Int.emod_eq_of_lt (by omega) (by omega), Int.emod_eq_of_lt (by omega) (by omega)] at h7
    omega
  refine ⟨hab, ?_⟩
  subst hab
  have key : ∀ p q : Nat, p ≤ q → q < m → ((p : Int) * s) % n = ((q : Int) * s) % n → p = q := by
    intro p q hpq hq hee
    rcases Nat.lt_or_ge p q with hlt | hge
    · exfalso
      have h8 := Int.emod_eq_emod_iff_emod_sub_eq_zero.1 hee.symm
      refine hA.2.2.2 (q - p) (by omega) (by omega) ?_
      rw [← Int.sub_mul] at h8
      rwa [show ((q - p : Nat) : Int) = (q : Int) - p by omega]
    · omega
  have e3 : ((i : Int) * s) % n = ((j : Int) * s) % n := by
    apply Int.emod_eq_emod_iff_emod_sub_eq_zero.2
    rwa [show (a : Int) + (i : Int) * s - ((a : Int) + (j : Int) * s) = (i : Int) * s - (j : Int) * s by omega] at h1
  rcases Nat.le_total i j with h | h
  · exact key i j h hj e3
  · exact (key j i h hi e3.symm).symm
theorem strs_nodup (n s : Int) (m : Nat) (hs : isStar n s) (hA : Around n s m) : (strsL n s m (Int.gcd n s)).flatten.Nodup := by
  unfold strsL strL
  rw [List.Nodup, List.pairwise_flatten]
  constructor
  · intro l hl
    obtain ⟨a, ha, rfl⟩ := List.mem_map.1 hl
    rw [List.pairwise_map]
    refine List.nodup_range.imp_of_mem (fun {i j} hi hj hij e => hij ?_)
    exact (str_inj n s m hs hA a a i j (List.mem_range.1 ha) (List.mem_range.1 ha) (List.mem_range.1 hi) (List.mem_range.1 hj) e).2
  · rw [List.pairwise_map]
    refine List.nodup_range.imp_of_mem (fun {a b} ha hb hab x hx y hy e => hab ?_)
    obtain ⟨i, hi, rfl⟩ := List.mem_map.1 hx
    obtain ⟨j, hj, rfl⟩ := List.mem_map.1 hy
    exact (str_inj n s m hs hA a b i j (List.mem_range.1 ha) (List.mem_range.1 hb) (List.mem_range.1 hi) (List.mem_range.1 hj) e).1
theorem strs_flat_len (n s : Int) (m : Nat) : ∀ g, (strsL n s m g).flatten.length = g * m
  | 0 => by simp [strsL]
  | g + 1 => by
    have ih := strs_flat_len n s m g
    unfold strsL at ih ⊢
    rw [List.range_succ, List.map_append, List.flatten_append, List.length_append, ih]
    simp [strL_len, Nat.succ_mul]
end Go.Proofs.YthmhfagnenoibaaGreatDoor.Q
end
section
namespace Go.Proofs.YthmhfagnenoibaaGreatDoor.Q
open Go.RowKit Go.Proofs.YthmhfagnenoibaaGreatDoor.X Go.Proofs.YthmhfagnenoibaaGreatDoorW.PrintWords Go.Proofs.YthmhfagnenoibaaGreatDoorW.PrintLast Go.Proofs.YthmhfagnenoibaaGreatDoorW.PrintMore
set_option linter.unusedVariables false
set_option linter.unusedSimpArgs false
def dd (n : Nat) : List UInt8 := if n < 10 then [UInt8.ofNat (48 + n)] else [UInt8.ofNat (48 + n / 10), UInt8.ofNat (48 + n % 10)]
theorem dd_eq (n : Nat) (h : n < 100) : Lib.decDigits n = dd n := by
  unfold dd
  rw [Lib.decDigits]
  by_cases h1 : n < 10
  · rw [dif_pos h1, if_pos h1]
  · rw [dif_neg h1, if_neg h1, Lib.decDigits, dif_pos (by omega)]
    rfl
theorem num_dd : ∀ n : Nat, n < 100 → spec_l1Num.f 10 (n : Int) = some ⟨(dd n).toArray⟩ := by decide +kernel
theorem num_up (n : Int) (r : ByteArray) : ∀ j, spec_l1Num.f 10 n = some r → spec_l1Num.f (10 + j) n = some r
  | 0, h => h
  | j + 1, h => spec_l1Num.mono n (10 + j) r (num_up n r j h)
theorem dd_len (n : Nat) : (dd n).length ≤ 2 := by unfold dd; split <;> simp
def nt (n : Int) : ByteArray := ⟨(dd n.toNat).toArray⟩
theorem nt_size (n : Int) : (nt n).size ≤ 2 := by
  show (dd n.toNat).toArray.size ≤ 2
  rw [List.size_toArray]
  exact dd_len _
theorem num_eq (n : Int) (h : 0 ≤ n ∧ n < 100) (k : Nat) (hk : 10 ≤ k) : spec_l1Num.f k n = some (nt n) := by
  obtain ⟨j, rfl⟩ : ∃ j, k = 10 + j := ⟨k - 10, by omega⟩
  refine num_up n _ j ?_
  have h1 := num_dd n.toNat (by omega)
  rw [Int.toNat_of_nonneg h.1] at h1
  exact h1
theorem itoa_eq (n : Int) (h : 0 ≤ n ∧ n < 100) : strconv_Itoa.f n = some (nt n) := by
  unfold strconv_Itoa.f nt
  rw [if_pos h, dd_eq n.toNat (by omega)]
end Go.Proofs.YthmhfagnenoibaaGreatDoor.Q
end
section
namespace Go.Proofs.YthmhfagnenoibaaGreatDoor.Q
open Go.RowKit Go.Proofs.YthmhfagnenoibaaGreatDoor.X Go.Proofs.YthmhfagnenoibaaGreatDoorW.PrintWords Go.Proofs.YthmhfagnenoibaaGreatDoorW.PrintLast Go.Proofs.YthmhfagnenoibaaGreatDoorW.PrintMore
set_option linter.unusedVariables false
set_option linter.unusedSimpArgs false
theorem len_data (w : ByteArray) : w.data.toList.length = w.size := by simp
theorem bt_get (w : ByteArray) (i : Nat) (h : i < w.size) : bt w (i : Int) = ((w.data.toList[i]'(by rw [len_data]; exact h)).toNat : Int) := by
  unfold bt
  rw [dif_pos (by simpa using h)]
  rfl
theorem u8_eq (b : UInt8) (n : Nat) (hn : n < 256) : ((b.toNat : Int) = (n : Int)) ↔ b = UInt8.ofNat n := by
  constructor
  · intro h
    apply UInt8.toNat_inj.1
    rw [UInt8.toNat_ofNat']
    omega
  · intro h
    rw [h, UInt8.toNat_ofNat']
    omega
end Go.Proofs.YthmhfagnenoibaaGreatDoor.Q
end
section
namespace Go.Proofs.YthmhfagnenoibaaGreatDoor.Q
open Go.RowKit Go.Proofs.YthmhfagnenoibaaGreatDoor.X Go.Proofs.YthmhfagnenoibaaGreatDoorW.PrintWords Go.Proofs.YthmhfagnenoibaaGreatDoorW.PrintLast Go.Proofs.YthmhfagnenoibaaGreatDoorW.PrintMore
set_option linter.unusedVariables false
set_option linter.unusedSimpArgs false
def digB (b : UInt8) : Bool := decide (48 ≤ b.toNat) && decide (b.toNat ≤ 57)
def valD : Int → List UInt8 → Int
  | acc, [] => acc
  | acc, b :: l => valD (10 * acc + ((b.toNat : Int) - 48)) l
theorem valD_ge : ∀ (l : List UInt8) (acc : Int), 0 ≤ acc → l.all digB = true → acc ≤ valD acc l
  | [], acc, _, _ => Int.le_refl _
  | b :: l, acc, h, hd => by
    simp only [List.all_cons, Bool.and_eq_true] at hd
    have hb := hd.1
    unfold digB at hb
    simp only [Bool.and_eq_true, decide_eq_true_eq] at hb
    have := valD_ge l (10 * acc + ((b.toNat : Int) - 48)) (by omega) hd.2
    simp only [valD]
    omega
def readV (l : List UInt8) : Int := if (1 ≤ l.length ∧ l.length ≤ 6) ∧ ¬ (l.head? = some 48 ∧ 1 < l.length) ∧ l.all digB = true then valD 0 l else -1
theorem read_loop (s : ByteArray) (hs : s.size ≤ 6) (d : Nat) : ∀ (k i : Nat) (acc B : Int), i + d = s.size → d < k → 0 ≤ acc → acc < B → B * 10 ^ d ≤ 100000000 → 1 ≤ B →
    spec_l1Read.l0 k s acc (i : Int) = some (if (s.data.toList.drop i).all digB = true then valD acc (s.data.toList.drop i) else -1) := by
  induction d with
  | zero =>
    intro k i acc B hi hk h0 hB hb h1
    obtain ⟨k, rfl⟩ : ∃ t, k = t + 1 := ⟨k - 1, by omega⟩
    simp only [spec_l1Read.l0]
    rw [if_neg (by omega), List.drop_eq_nil_of_le (by rw [len_data]; omega)]
    rfl
  | succ d ih =>
    intro k i acc B hi hk h0 hB hb h1
    obtain ⟨k, rfl⟩ : ∃ t, k = t + 1 := ⟨k - 1, by omega⟩
    have hlt : i < s.data.toList.length := by rw [len_data]; omega
    have hpow : B * 10 * 10 ^ d ≤ 100000000 := by
      have e : B * 10 ^ (d + 1) = B * 10 * 10 ^ d := by rw [Int.pow_succ, Int.mul_assoc, Int.mul_comm (10 ^ d) 10]
      omega
    have hB1 : B * 10 ≤ 100000000 := by
      have h10 : (1 : Int) ≤ 10 ^ d := by
        have : (0 : Int) < 10 ^ d := Int.pow_pos (by decide)
        omega
      have := Int.mul_le_mul_of_nonneg_left h10 (show (0 : Int) ≤ B * 10 by omega)
      omega
    clear hb
    have hbt := bt_get s i (by omega)
    simp only [spec_l1Read.l0]
    rw [if_pos (by omega), if_pos (by omega), List.drop_eq_getElem_cons hlt, hbt]
    generalize s.data.toList[i] = b at hbt ⊢
    have hbl : (b.toNat : Int) < 256 := by have := UInt8.toNat_lt b; omega
    by_cases c1 : (b.toNat : Int) < 48
    · have hd : digB b = false := by unfold digB; rw [decide_eq_false (by omega), Bool.false_and]
      rw [if_pos c1]
      simp [hd]
    · rw [if_neg c1]
      by_cases c2 : (b.toNat : Int) > 57
      · have hd : digB b = false := by unfold digB; rw [decide_eq_false (p := b.toNat ≤ 57) (by omega), Bool.and_false]
        rw [if_pos c2]
        simp [hd]
      · have hd : digB b = true := by unfold digB; rw [decide_eq_true (by omega), decide_eq_true (by omega)]; rfl
        have em : ((b.toNat : Int) - 48) % 256 = (b.toNat : Int) - 48 := Int.emod_eq_of_lt (by omega) (by omega)
        rw [if_neg c2, em, wrap64_id (x := 10 * acc) (by omega) (by omega), wrap64_id (x := 10 * acc + ((b.toNat : Int) - 48)) (by omega) (by omega), wrap64_id (x := (i : Int) + 1) (by omega) (by omega)]
        have := ih k (i + 1) (10 * acc + ((b.toNat : Int) - 48)) (B * 10) (by omega) (by omega) (by omega) (by omega) hpow (by omega)
        rw [show ((i : Int) + 1) = ((i + 1 : Nat) : Int) by omega, this]
        simp [hd, valD]
theorem l1Read_eq (s : ByteArray) (hs : s.size ≤ 1000000) (k : Nat) (hk : 20 ≤ k) : spec_l1Read.f k s = some (readV s.data.toList) := by
  obtain ⟨k, rfl⟩ : ∃ t, k = t + 1 := ⟨k - 1, by omega⟩
  unfold spec_l1Read.f readV
  rw [l1In_eq, len_data]
  simp only [Option.bind_some]
  by_cases h : 1 ≤ s.size ∧ s.size ≤ 6
  · have hlt : 0 < s.data.toList.length := by rw [len_data]; omega
    have hbt := bt_get s 0 (by omega)
    have hL := read_loop s h.2 s.size k 0 0 1 (by omega) (by omega) (by omega) (by omega) (by
      rcases (show s.size = 1 ∨ s.size = 2 ∨ s.size = 3 ∨ s.size = 4 ∨ s.size = 5 ∨ s.size = 6 by omega) with e | e | e | e | e | e <;> rw [e] <;> decide) (by omega)
    rw [List.drop_zero] at hL
    have hh : s.data.toList.head? = some s.data.toList[0] := by
      rw [List.head?_eq_getElem?, List.getElem?_eq_getElem hlt]
    rw [if_pos (decide_eq_true (by omega)), if_pos (by omega), show (0 : Int) = ((0 : Nat) : Int) from rfl, hbt, hh]
    generalize s.data.toList[0] = b at hbt ⊢
    by_cases hb : (b.toNat : Int) = 48
    · have hb2 : b = 48 := (u8_eq b 48 (by omega)).1 hb
      rw [if_pos hb]
      simp only [spec_l1Read.j0]
      by_cases h1 : 1 < s.size
      · rw [if_pos (decide_eq_true (by omega)), if_neg (fun q => q.2.1 ⟨by rw [hb2], h1⟩)]
      · rw [if_neg (by simp; omega), show spec_l1Read.l0 k s 0 0 = _ from hL]
        by_cases ha : s.data.toList.all digB = true
        · rw [if_pos ha, if_pos ⟨h, fun q => h1 q.2, ha⟩]
          rfl
        · rw [if_neg ha, if_neg (fun q => ha q.2.2)]
    · have hb2 : ¬ b = 48 := fun e => hb ((u8_eq b 48 (by omega)).2 e)
      rw [if_neg hb]
      simp only [spec_l1Read.j0]
      rw [if_neg (by simp), show spec_l1Read.l0 k s 0 0 = _ from hL]
      by_cases ha : s.data.toList.all digB = true
      · rw [if_pos ha, if_pos ⟨h, fun q => hb2 (Option.some.inj q.1), ha⟩]
        rfl
      · rw [if_neg ha, if_neg (fun q => ha q.2.2)]
  · rw [if_neg (by simp; omega), if_neg (fun q => h q.1)]
    simp only [spec_l1Read.j0]
    rfl
theorem u8_of (b : UInt8) (h : 48 ≤ b.toNat) : b = UInt8.ofNat (48 + (b.toNat - 48)) := by
  rw [show 48 + (b.toNat - 48) = b.toNat by omega]
  exact (UInt8.ofNat_toNat).symm
theorem readV_dd (l : List UInt8) (v : Int) (hv : 0 ≤ v ∧ v < 100) (h : readV l = v) : l = dd v.toNat := by
  unfold readV at h
  split at h
  · rename_i hc
    obtain ⟨⟨c1, c2⟩, c3, c4⟩ := hc
    match l, c1, c3, c4, h with
    | [a], _, _, c4, h =>
      simp only [List.all_cons, List.all_nil, Bool.and_true] at c4
      unfold digB at c4
      simp only [Bool.and_eq_true, decide_eq_true_eq] at c4
      simp only [valD] at h
      unfold dd
      have e : v.toNat = a.toNat - 48 := by omega
      rw [e, if_pos (by omega), ← u8_of a (by omega)]
    | [a, b], _, c3, c4, h =>
      simp only [List.all_cons, List.all_nil, Bool.and_true, Bool.and_eq_true] at c4
      unfold digB at c4
      simp only [Bool.and_eq_true, decide_eq_true_eq] at c4
      simp only [valD] at h
      have ha : ¬ a.toNat = 48 := by
        intro e
        refine c3 ⟨?_, by simp⟩
        have : a = 48 := UInt8.toNat_inj.1 e
        rw [this]; rfl
      unfold dd
      have e1 : v.toNat / 10 = a.toNat - 48 := by omega
      have e2 : v.toNat % 10 = b.toNat - 48 := by omega
      rw [if_neg (by omega), e1, e2, ← u8_of a (by omega), ← u8_of b (by omega)]
    | a :: b :: c :: r, _, c3, c4, h =>
      exfalso
      simp only [List.all_cons, Bool.and_eq_true] at c4
      obtain ⟨d1, d2, d3, d4⟩ := c4
      unfold digB at d1 d2 d3
      simp only [Bool.and_eq_true, decide_eq_true_eq] at d1 d2 d3
      have ha : ¬ a.toNat = 48 := by
        intro e
        refine c3 ⟨?_, by simp⟩
        have : a = 48 := UInt8.toNat_inj.1 e
        rw [this]; rfl
      simp only [valD] at h
      have := valD_ge r _ (show 0 ≤ 10 * (10 * (10 * 0 + ((a.toNat : Int) - 48)) + ((b.toNat : Int) - 48)) + ((c.toNat : Int) - 48) by omega) d4
      omega
  · omega
theorem dd_readV : ∀ n : Nat, n < 100 → readV (dd n) = (n : Int) := by decide +kernel
theorem numV_dd (l : List UInt8) (v : Int) (hv : 0 ≤ v ∧ v < 100) (h : numV l = v) : l = dd v.toNat := by
  unfold numV at h
  split at h
  · split at h
    · rename_i hc
      obtain ⟨c1, c2⟩ := hc
      subst h
      rw [← c2]
      unfold Lib.itoa
      rw [if_neg (by omega), dd_eq _ (by omega)]
    · omega
  · omega
theorem dd_numV : ∀ n : Nat, n < 100 → numV (dd n) = (n : Int) := by
  intro n hn
  have h1 : ∀ n : Nat, n < 100 → Lib.atoiAll (dd n) = .ok (n : Int) := by decide +kernel
  unfold numV
  rw [h1 n hn]
  simp only
  have e : Lib.itoa (n : Int) = dd n := by
    unfold Lib.itoa
    rw [if_neg (by omega), Int.toNat_natCast, dd_eq n hn]
  rw [if_pos ⟨by omega, e⟩]
theorem read_num (l : List UInt8) (v : Int) (hv : 0 ≤ v ∧ v < 100) : readV l = v ↔ numV l = v := by
  constructor
  · intro h
    rw [readV_dd l v hv h, dd_numV _ (by omega)]
    omega
  · intro h
    rw [numV_dd l v hv h, dd_readV _ (by omega)]
    omega
end Go.Proofs.YthmhfagnenoibaaGreatDoor.Q
end
section
namespace Go.Proofs.YthmhfagnenoibaaGreatDoor.Q
open Go.RowKit Go.Proofs.YthmhfagnenoibaaGreatDoor.X Go.Proofs.YthmhfagnenoibaaGreatDoorW.PrintWords Go.Proofs.YthmhfagnenoibaaGreatDoorW.PrintLast Go.Proofs.YthmhfagnenoibaaGreatDoorW.PrintMore
set_option linter.unusedVariables false
set_option linter.unusedSimpArgs false
theorem wrapS (n : Nat) (h : n ≤ 4000000000) : wrap64 ((n : Int) + 1) = ((n + 1 : Nat) : Int) := by
  rw [wrap64_id (by omega) (by omega)]
  omega
def mkB (l : List UInt8) : ByteArray := ⟨l.toArray⟩
theorem mkB_data (l : List UInt8) : (mkB l).data.toList = l := by simp [mkB]
theorem mkB_size (l : List UInt8) : (mkB l).size = l.length := by
  show l.toArray.size = _
  simp
theorem mkB_extract (s : ByteArray) (i j : Nat) (h : j ≤ s.size) : s.extract i j = mkB ((s.data.toList.drop i).take (j - i)) := by
  refine ByteArray.ext ?_
  apply Array.toList_inj.1
  simp [mkB, ByteArray.data_extract, List.take_drop]
def splitL (c : UInt8) : List UInt8 → List (List UInt8)
  | [] => [[]]
  | b :: l => if b = c then [] :: splitL c l else match splitL c l with
    | [] => [[b]]
    | p :: ps => (b :: p) :: ps
theorem splitL_ne (c : UInt8) : ∀ l, splitL c l ≠ []
  | [] => by simp [splitL]
  | b :: l => by
    unfold splitL
    split
    · simp
    · split <;> simp
theorem splitL_len (c : UInt8) : ∀ l, (splitL c l).length = l.count c + 1
  | [] => rfl
  | b :: l => by
    have ih := splitL_len c l
    unfold splitL
    by_cases h : b = c
    · rw [if_pos h, List.length_cons, ih, h, List.count_cons_self]
    · rw [if_neg h]
      cases hs : splitL c l with
      | nil => exact absurd hs (splitL_ne c l)
      | cons p ps =>
        rw [hs] at ih
        rw [List.count_cons_of_ne h]
        simpa using ih
theorem splitL_none (c : UInt8) : ∀ l, l.count c = 0 → splitL c l = [l]
  | [], _ => rfl
  | b :: l, h => by
    have hb : ¬ b = c := fun e => by subst e; simp at h
    rw [List.count_cons_of_ne hb] at h
    unfold splitL
    rw [if_neg hb, splitL_none c l h]
theorem splitL_at (c : UInt8) : ∀ (a b : List UInt8), a.count c = 0 → splitL c (a ++ c :: b) = a :: splitL c b
  | [], b, _ => by simp [splitL]
  | x :: a, b, h => by
    have hx : ¬ x = c := fun e => by subst e; simp at h
    rw [List.count_cons_of_ne hx] at h
    rw [List.cons_append, splitL, if_neg hx, splitL_at c a b h]
theorem indexByte_cases (c : UInt8) : ∀ l : List UInt8, (l.count c = 0 ∧ Lib.indexByte l c = -1) ∨ ∃ a b, l = a ++ c :: b ∧ a.count c = 0 ∧ Lib.indexByte l c = a.length
  | [] => .inl ⟨rfl, rfl⟩
  | x :: l => by
    by_cases hx : x = c
    · subst hx
      refine .inr ⟨[], l, rfl, rfl, ?_⟩
      simp [Lib.indexByte]
    · have hb : (x == c) = false := by simpa using hx
      rcases indexByte_cases c l with ⟨h1, h2⟩ | ⟨a, b, rfl, h2, h3⟩
      · refine .inl ⟨by rw [List.count_cons_of_ne hx]; exact h1, ?_⟩
        simp [Lib.indexByte, hb, h2]
      · refine .inr ⟨x :: a, b, rfl, by rw [List.count_cons_of_ne hx]; exact h2, ?_⟩
        unfold Lib.indexByte
        rw [hb, h3]
        have : ((a.length : Int) == -1) = false := by first | (simp; done) | (simp; omega)
        simp [this]
end Go.Proofs.YthmhfagnenoibaaGreatDoor.Q
end
section
namespace Go.Proofs.YthmhfagnenoibaaGreatDoor.Q
open Go.RowKit Go.Proofs.YthmhfagnenoibaaGreatDoor.X Go.Proofs.YthmhfagnenoibaaGreatDoorW.PrintWords Go.Proofs.YthmhfagnenoibaaGreatDoorW.PrintLast Go.Proofs.YthmhfagnenoibaaGreatDoorW.PrintMore
set_option linter.unusedVariables false
set_option linter.unusedSimpArgs false
theorem ext_list (s : ByteArray) (i j : Nat) (h : j ≤ s.size) : (s.extract i j).toList = (s.data.toList.drop i).take (j - i) := by
  rw [mkB_extract s i j h, Lib.toList_data, mkB_data]
theorem cutPrefix_yes (s : ByteArray) (c : UInt8) (r : List UInt8) (h : s.data.toList = c :: r) (hs : s.size ≤ 1000000000) : strings_CutPrefix.f s ⟨#[c]⟩ = some (mkB r, true) := by
  have hl : s.size = r.length + 1 := by rw [← len_data, h]; rfl
  have e1 : (((⟨#[c]⟩ : ByteArray).size : Nat) : Int) = 1 := rfl
  have e2 : (⟨#[c]⟩ : ByteArray).toList = [c] := by rw [Lib.toList_data]
  unfold strings_CutPrefix.f stringslite_CutPrefix.f stringslite_HasPrefix.f
  rw [e1, e2, if_pos (by omega), if_pos (by omega), if_pos (by omega)]
  have e3 : (s.extract 0 (1 : Int).toNat).toList = [c] := by
    rw [show (1 : Int).toNat = 1 from rfl, ext_list s 0 1 (by omega), h]
    rfl
  rw [e3]
  simp only [Option.bind_some, BEq.rfl, if_true]
  rw [if_pos (by omega), if_pos (by omega), show (1 : Int).toNat = 1 from rfl, mkB_extract s 1 s.size (Nat.le_refl _), h]
  simp only [Option.bind_some, List.drop_succ_cons, List.drop_zero]
  rw [List.take_of_length_le (by omega)]
theorem cutPrefix_no (s : ByteArray) (c : UInt8) (h : ¬ s.data.toList.head? = some c) (hs : s.size ≤ 1000000000) : strings_CutPrefix.f s ⟨#[c]⟩ = some (s, false) := by
  have e1 : (((⟨#[c]⟩ : ByteArray).size : Nat) : Int) = 1 := rfl
  have e2 : (⟨#[c]⟩ : ByteArray).toList = [c] := by rw [Lib.toList_data]
  unfold strings_CutPrefix.f stringslite_CutPrefix.f stringslite_HasPrefix.f
  rw [e1, e2]
  by_cases h1 : 1 ≤ s.size
  · rw [if_pos (by omega), if_pos (by omega), if_pos (by omega)]
    have e3 : ((s.extract 0 (1 : Int).toNat).toList == [c]) = false := by
      rw [show (1 : Int).toNat = 1 from rfl, ext_list s 0 1 (by omega)]
      have hlt : 0 < s.data.toList.length := by rw [len_data]; omega
      cases hd : s.data.toList with
      | nil => rw [hd] at hlt; simp at hlt
      | cons x l =>
        rw [hd] at h
        have hx : ¬ x = c := fun e => h (by rw [e]; rfl)
        simpa using hx
    rw [e3]
    simp
  · rw [if_neg (by omega)]
    simp
theorem cutSuffix_yes (s : ByteArray) (c : UInt8) (r : List UInt8) (h : s.data.toList = r ++ [c]) (hs : s.size ≤ 1000000000) : strings_CutSuffix.f s ⟨#[c]⟩ = some (mkB r, true) := by
  have hl : s.size = r.length + 1 := by rw [← len_data, h]; simp
  have e1 : (((⟨#[c]⟩ : ByteArray).size : Nat) : Int) = 1 := rfl
  have e2 : (⟨#[c]⟩ : ByteArray).toList = [c] := by rw [Lib.toList_data]
  have e0 : (s.size : Int) - 1 = (r.length : Int) := by omega
  unfold strings_CutSuffix.f stringslite_CutSuffix.f stringslite_HasSuffix.f
  rw [e1, e2, e0, wrap64_id (x := (r.length : Int)) (by omega) (by omega), if_pos (by omega), if_pos (by omega), if_pos (by omega), Int.toNat_natCast]
  have e3 : (s.extract r.length s.size).toList = [c] := by
    rw [ext_list s r.length s.size (Nat.le_refl _), h, List.drop_left]
    exact List.take_of_length_le (by simp; omega)
  rw [e3]
  simp only [Option.bind_some, BEq.rfl, if_true]
  rw [if_pos (by omega), if_pos (by omega), mkB_extract s 0 r.length (by omega), h]
  simp
theorem cutSuffix_no (s : ByteArray) (c : UInt8) (h : ¬ s.data.toList.getLast? = some c) (hs : s.size ≤ 1000000000) : strings_CutSuffix.f s ⟨#[c]⟩ = some (s, false) := by
  have e1 : (((⟨#[c]⟩ : ByteArray).size : Nat) : Int) = 1 := rfl
  have e2 : (⟨#[c]⟩ : ByteArray).toList = [c] := by rw [Lib.toList_data]
  unfold strings_CutSuffix.f stringslite_CutSuffix.f stringslite_HasSuffix.f
  rw [e1, e2]
  by_cases h1 : 1 ≤ s.size
  · obtain ⟨m, hm⟩ : ∃ m, s.size = m + 1 := ⟨s.size - 1, by omega⟩
    have e0 : (s.size : Int) - 1 = (m : Int) := by omega
    rw [e0, wrap64_id (x := (m : Int)) (by omega) (by omega), if_pos (by omega), if_pos (by omega), if_pos (by omega), Int.toNat_natCast]
    have e3 : ((s.extract m s.size).toList == [c]) = false := by
      rw [ext_list s m s.size (Nat.le_refl _)]
      rcases List.eq_nil_or_concat s.data.toList with e | ⟨l, x, e⟩
      · have := len_data s; rw [e] at this; simp at this; omega
      · rw [List.concat_eq_append] at e
        have hl : l.length = m := by have := len_data s; rw [e] at this; simp at this; omega
        rw [e] at h ⊢
        have hx : ¬ x = c := fun e => h (by rw [e]; simp)
        rw [← hl, List.drop_left, List.take_of_length_le (by simp; omega)]
        simpa using hx
    rw [e3]
    simp
  · rw [if_neg (by omega)]
    simp
theorem cut_yes (s : ByteArray) (c : UInt8) (a b : List UInt8) (h : s.data.toList = a ++ c :: b) (ha : a.count c = 0) (hs : s.size ≤ 1000000000) : strings_Cut.f s ⟨#[c]⟩ = some (mkB a, mkB b, true) := by
  have hl : s.size = a.length + (b.length + 1) := by rw [← len_data, h]; simp
  have e1 : (((⟨#[c]⟩ : ByteArray).size : Nat) : Int) = 1 := rfl
  have hi : stringslite_Index.f s ⟨#[c]⟩ = some (a.length : Int) := by
    rcases indexByte_cases c s.data.toList with ⟨h1, h2⟩ | ⟨a', b', h1, h2, h3⟩
    · rw [h, List.count_append, List.count_cons_self] at h1; omega
    · have e : a' = a := by
        rw [h] at h1
        have h4 := splitL_at c a b ha
        rw [h1, splitL_at c a' b' h2] at h4
        injection h4
      subst e
      unfold stringslite_Index.f
      simp only [h3]
  unfold strings_Cut.f stringslite_Cut.f
  rw [hi, e1]
  simp only [Option.bind_some]
  rw [if_pos (by omega), if_pos (by omega), if_pos (by omega), wrapS a.length (by omega), if_pos (by omega), if_pos (by omega), Int.toNat_natCast, Int.toNat_natCast, mkB_extract s 0 a.length (by omega), mkB_extract s (a.length + 1) s.size (Nat.le_refl _), h]
  have e2 : (a ++ c :: b).drop (a.length + 1) = b := by
    rw [show a.length + 1 = (a ++ [c]).length by simp, show a ++ c :: b = (a ++ [c]) ++ b by simp, List.drop_left]
  rw [e2, List.take_of_length_le (l := b) (by omega)]
  simp
theorem cut_no (s : ByteArray) (c : UInt8) (h : s.data.toList.count c = 0) : strings_Cut.f s ⟨#[c]⟩ = some (s, ⟨#[]⟩, false) := by
  unfold strings_Cut.f stringslite_Cut.f stringslite_Index.f
  rcases indexByte_cases c s.data.toList with ⟨h1, h2⟩ | ⟨a', b', h1, h2, h3⟩
  · simp only [h2, Option.bind_some]
    rw [if_neg (by omega)]
    rfl
  · rw [h1, List.count_append, List.count_cons_self] at h; omega
end Go.Proofs.YthmhfagnenoibaaGreatDoor.Q
end
section
namespace Go.Proofs.YthmhfagnenoibaaGreatDoor.Q
open Go.RowKit Go.Proofs.YthmhfagnenoibaaGreatDoor.X Go.Proofs.YthmhfagnenoibaaGreatDoorW.PrintWords Go.Proofs.YthmhfagnenoibaaGreatDoorW.PrintLast Go.Proofs.YthmhfagnenoibaaGreatDoorW.PrintMore
set_option linter.unusedVariables false
set_option linter.unusedSimpArgs false
def splitA (c : UInt8) : List UInt8 → List UInt8 → List (List UInt8)
  | p, [] => [p]
  | p, b :: r => if b = c then p :: splitA c [] r else splitA c (p ++ [b]) r
theorem splitA_eq (c : UInt8) : ∀ (r p : List UInt8), ∃ q qs, splitL c r = q :: qs ∧ splitA c p r = (p ++ q) :: qs
  | [], p => ⟨[], [], rfl, by simp [splitA]⟩
  | b :: r, p => by
    by_cases h : b = c
    · obtain ⟨q, qs, e1, e2⟩ := splitA_eq c r []
      refine ⟨[], splitL c r, by simp [splitL, h], ?_⟩
      simp only [splitA]
      rw [if_pos h, e2, e1]
      simp
    · obtain ⟨q, qs, e1, e2⟩ := splitA_eq c r (p ++ [b])
      refine ⟨b :: q, qs, ?_, ?_⟩
      · simp only [splitL]
        rw [if_neg h, e1]
      · simp only [splitA]
        rw [if_neg h, e2]
        simp
theorem splitA_nil (c : UInt8) (l : List UInt8) : splitA c [] l = splitL c l := by
  obtain ⟨q, qs, e1, e2⟩ := splitA_eq c l []
  rw [e1, e2, List.nil_append]
theorem l1Split_loop (s : ByteArray) (c : UInt8) (hs : s.size ≤ 1000000) (d : Nat) : ∀ (k i from_ : Nat) (done : List ByteArray), i + d = s.size → from_ ≤ i → done.length ≤ i → d < k →
    spec_l1Split.l0 k s (c.toNat : Int) done (from_ : Int) (i : Int) = some (done ++ (splitA c ((s.data.toList.drop from_).take (i - from_)) (s.data.toList.drop i)).map mkB) := by
  induction d with
  | zero =>
    intro k i f done hi hf hd hk
    obtain ⟨k, rfl⟩ : ∃ t, k = t + 1 := ⟨k - 1, by omega⟩
    simp only [spec_l1Split.l0]
    rewrite [if_neg (by omega), if_pos (by omega), if_pos (by omega), if_pos (by omega), Int.toNat_natCast, mkB_extract s f s.size (Nat.le_refl _), List.drop_eq_nil_of_le (i := i) (by rw [len_data]; omega)]
    rw [show i = s.size by omega]
    rfl
  | succ d ih =>
    intro k i f done hi hf hd hk
    obtain ⟨k, rfl⟩ : ∃ t, k = t + 1 := ⟨k - 1, by omega⟩
    have hlt : i < s.data.toList.length := by rw [len_data]; omega
    have hbt := bt_get s i (by omega)
    have hpre : (s.data.toList.drop f).take (i + 1 - f) = (s.data.toList.drop f).take (i - f) ++ [s.data.toList[i]] := by
      rw [show i + 1 - f = (i - f) + 1 by omega, List.take_succ_eq_append_getElem (by simp; omega)]
      simp [show f + (i - f) = i by omega]
    simp only [spec_l1Split.l0]
    rewrite [if_pos (by omega), if_pos (by omega), hbt, List.drop_eq_getElem_cons hlt]
    generalize s.data.toList[i] = b at hpre ⊢
    by_cases hb : b = c
    · subst hb
      rewrite [if_pos rfl, if_pos (by omega), if_pos (by omega), if_pos (by omega), if_pos (by omega), wrapS i (by omega), Int.toNat_natCast, Int.toNat_natCast, mkB_extract s f i (by omega), ih k (i + 1) (i + 1) _ (by omega) (Nat.le_refl _) (by simp; omega) (by omega)]
      simp only [splitA, if_true, Nat.sub_self, List.take_zero, List.map_cons, List.append_assoc, List.cons_append, List.nil_append]
    · have hne : ¬ (b.toNat : Int) = (c.toNat : Int) := fun e => hb (UInt8.toNat_inj.1 (by omega))
      rewrite [if_neg hne, wrapS i (by omega), ih k (i + 1) f done (by omega) (by omega) (by omega) (by omega), hpre]
      simp only [splitA, if_neg hb]
theorem l1Split_eq (s : ByteArray) (c : UInt8) (hs : s.size ≤ 1000000) (k : Nat) (hk : s.size < k) : spec_l1Split.f k s (c.toNat : Int) = some ((splitL c s.data.toList).map mkB) := by
  unfold spec_l1Split.f
  have := l1Split_loop s c hs s.size k 0 0 [] (by omega) (Nat.le_refl _) (Nat.le_refl _) hk
  simp only [Nat.sub_self, List.take_zero, List.drop_zero, List.nil_append, splitA_nil] at this
  exact this
end Go.Proofs.YthmhfagnenoibaaGreatDoor.Q
end
section
namespace Go.Proofs.YthmhfagnenoibaaGreatDoor.Q
open Go.RowKit Go.Proofs.YthmhfagnenoibaaGreatDoor.X Go.Proofs.YthmhfagnenoibaaGreatDoorW.PrintWords Go.Proofs.YthmhfagnenoibaaGreatDoorW.PrintLast Go.Proofs.YthmhfagnenoibaaGreatDoorW.PrintMore
set_option linter.unusedVariables false
set_option linter.unusedSimpArgs false
theorem nt_min (n : Nat) : 1 ≤ (dd n).length := by unfold dd; split <;> simp
theorem dd_clean : ∀ n : Nat, n < 100 → (dd n).count 47 = 0 := by decide +kernel
def starV (l : List UInt8) : Int × Int × Bool := match l with
  | [] => (0, 0, false)
  | b :: r => if b = 123 ∧ r.getLast? = some 125 then (match splitL 47 r.dropLast with
      | [x, y] => if isStar (numV x) (numV y) then (numV x, numV y, true) else (0, 0, false)
      | _ => (0, 0, false)) else (0, 0, false)
theorem star_small (x y : List UInt8) (h : isStar (numV x) (numV y)) : (∃ p : Nat, p < 100 ∧ x = dd p) ∧ ∃ q : Nat, q < 100 ∧ y = dd q := by
  unfold isStar at h
  exact ⟨⟨(numV x).toNat, by omega, numV_dd x _ (by omega) rfl⟩, ⟨(numV y).toNat, by omega, numV_dd y _ (by omega) rfl⟩⟩
theorem star_same (x y : List UInt8) : isStar (readV x) (readV y) ↔ isStar (numV x) (numV y) := by
  unfold isStar
  constructor
  · intro h
    have h1 := (read_num x (readV x) (by omega)).1 rfl
    have h2 := (read_num y (readV y) (by omega)).1 rfl
    rw [h1, h2]; exact h
  · intro h
    have h1 := (read_num x (numV x) (by omega)).2 rfl
    have h2 := (read_num y (numV y) (by omega)).2 rfl
    rw [h1, h2]; exact h
theorem impl_parse (s : ByteArray) (hs : s.size ≤ 1048576) : impl_ParseStar.f s = some (starV s.data.toList) := by
  have hn : ∀ t : ByteArray, t.size ≤ 1000000000 → impl_number.f t = some (numV t.data.toList) := fun t ht => by unfold impl_number.f; rw [if_pos (by omega)]
  unfold impl_ParseStar.f
  by_cases h1 : s.data.toList.head? = some 123
  · obtain ⟨r, hr⟩ : ∃ r, s.data.toList = 123 :: r := by
      cases hd : s.data.toList with
      | nil => rw [hd] at h1; simp at h1
      | cons x l => rw [hd] at h1; simp at h1; subst h1; exact ⟨l, rfl⟩
    have hl : s.size = r.length + 1 := by rw [← len_data, hr]; rfl
    rw [cutPrefix_yes s 123 r hr (by omega)]
    simp only [Option.bind_some]
    by_cases h2 : r.getLast? = some 125
    · obtain ⟨m, hm⟩ : ∃ m, r = m ++ [125] := by
        rcases List.eq_nil_or_concat r with e | ⟨l, x, e⟩
        · rw [e] at h2; simp at h2
        · rw [List.concat_eq_append] at e
          rw [e] at h2
          simp at h2
          exact ⟨l, by rw [e, h2]⟩
      have hml : m.length ≤ 1048576 := by rw [hm] at hl; simp at hl; omega
      rw [cutSuffix_yes (mkB r) 125 m (by rw [mkB_data]; exact hm) (by rw [mkB_size]; omega)]
      simp only [Option.bind_some]
      have hV : starV s.data.toList = (match splitL 47 m with
        | [x, y] => if isStar (numV x) (numV y) then (numV x, numV y, true) else (0, 0, false)
        | _ => (0, 0, false)) := by
        rw [hr]
        simp only [starV]
        rw [if_pos ⟨trivial, h2⟩, hm, List.dropLast_concat]
      rw [hV]
      rcases indexByte_cases 47 m with ⟨c1, _⟩ | ⟨a, b, c1, c2, _⟩
      · rw [cut_no (mkB m) 47 (by rw [mkB_data]; exact c1), splitL_none 47 m c1]
        simp only [Option.bind_some]
        rw [hn _ (by rw [mkB_size]; omega), show impl_number.f ⟨#[]⟩ = some (-1) from rfl]
        simp only [Option.bind_some]
        rw [implIsStar_eq, decide_eq_false (fun h => by unfold isStar at h; omega)]
        simp
      · have hal : m.length = a.length + (b.length + 1) := by rw [c1]; simp
        rw [cut_yes (mkB m) 47 a b (by rw [mkB_data]; exact c1) c2 (by rw [mkB_size]; omega)]
        simp only [Option.bind_some]
        rw [hn _ (by rw [mkB_size]; omega), hn _ (by rw [mkB_size]; omega), mkB_data, mkB_data]
        simp only [Option.bind_some, if_true]
        rw [implIsStar_eq, c1, splitL_at 47 a b c2]
        simp only [Option.bind_some]
        by_cases hst : isStar (numV a) (numV b)
        · obtain ⟨_, q, hq, e⟩ := star_small a b hst
          have hb0 : b.count 47 = 0 := by rw [e]; exact dd_clean q hq
          rw [decide_eq_true hst, splitL_none 47 b hb0]
          simp only [if_true]
          rw [if_pos hst]
        · rw [decide_eq_false hst]
          simp only [Bool.false_eq_true, if_false]
          cases hsp : splitL 47 b with
          | nil => rfl
          | cons q qs =>
            cases qs with
            | cons _ _ => rfl
            | nil =>
              have hq : q = b := by
                have hc := splitL_len 47 b
                rw [hsp] at hc
                have h0 : b.count 47 = 0 := by simpa using hc.symm
                have := splitL_none 47 b h0
                rw [hsp] at this
                injection this
              subst hq
              simp only
              rw [if_neg hst]
    · rw [cutSuffix_no (mkB r) 125 (by rw [mkB_data]; exact h2) (by rw [mkB_size]; omega)]
      simp only [Option.bind_some]
      have hV : starV s.data.toList = (0, 0, false) := by
        rw [hr]
        simp only [starV]
        rw [if_neg (fun q => h2 q.2)]
      rw [hV]
      rcases indexByte_cases 47 r with ⟨c1, _⟩ | ⟨a, b, c1, c2, _⟩
      · rw [cut_no (mkB r) 47 (by rw [mkB_data]; exact c1)]
        simp only [Option.bind_some]
        rw [hn _ (by rw [mkB_size]; omega), show impl_number.f ⟨#[]⟩ = some (-1) from rfl]
        simp only [Option.bind_some]
        rw [implIsStar_eq]
        simp
      · have hal : r.length = a.length + (b.length + 1) := by rw [c1]; simp
        rw [cut_yes (mkB r) 47 a b (by rw [mkB_data]; exact c1) c2 (by rw [mkB_size]; omega)]
        simp only [Option.bind_some]
        rw [hn _ (by rw [mkB_size]; omega), hn _ (by rw [mkB_size]; omega)]
        simp only [Option.bind_some]
        rw [implIsStar_eq]
        simp
  · rw [cutPrefix_no s 123 h1 (by omega)]
    simp only [Option.bind_some]
    have hV : starV s.data.toList = (0, 0, false) := by
      cases hd : s.data.toList with
      | nil => rfl
      | cons x l =>
        rw [hd] at h1
        simp only [starV]
        rw [if_neg (fun q => h1 (by rw [q.1]; rfl))]
    rw [hV]
    have hsuf : ∃ t : ByteArray × Bool, strings_CutSuffix.f s ⟨#[125]⟩ = some t ∧ t.1.size ≤ 1048576 := by
      by_cases h2 : s.data.toList.getLast? = some 125
      · rcases List.eq_nil_or_concat s.data.toList with e | ⟨l, x, e⟩
        · rw [e] at h2; simp at h2
        · rw [List.concat_eq_append] at e
          have h3 := h2
          rw [e] at h3
          simp at h3
          have hl := len_data s
          rw [e] at hl
          simp at hl
          exact ⟨_, cutSuffix_yes s 125 l (by rw [e, h3]) (by omega), by simp only; rw [mkB_size]; omega⟩
      · exact ⟨_, cutSuffix_no s 125 h2 (by omega), hs⟩
    obtain ⟨⟨t, tb⟩, ht, hts⟩ := hsuf
    rw [ht]
    simp only [Option.bind_some]
    simp only at hts
    rcases indexByte_cases 47 t.data.toList with ⟨c1, _⟩ | ⟨a, b, c1, c2, _⟩
    · rw [cut_no t 47 c1]
      simp only [Option.bind_some]
      rw [hn _ (by omega), show impl_number.f ⟨#[]⟩ = some (-1) from rfl]
      simp only [Option.bind_some]
      rw [implIsStar_eq]
      simp
    · have hal : t.size = a.length + (b.length + 1) := by rw [← len_data, c1]; simp
      rw [cut_yes t 47 a b c1 c2 (by omega)]
      simp only [Option.bind_some]
      rw [hn _ (by rw [mkB_size]; omega), hn _ (by rw [mkB_size]; omega)]
      simp only [Option.bind_some]
      rw [implIsStar_eq]
      simp
theorem splitL_two (c : UInt8) (l x y : List UInt8) (h : splitL c l = [x, y]) : l = x ++ c :: y ∧ y.count c = 0 := by
  rcases indexByte_cases c l with ⟨c1, _⟩ | ⟨a, b, c1, c2, _⟩
  · rw [splitL_none c l c1] at h
    simp at h
  · rw [c1, splitL_at c a b c2] at h
    injection h with e1 e2
    have hc := splitL_len c b
    rw [e2] at hc
    have h0 : b.count c = 0 := by simpa using hc.symm
    have := splitL_none c b h0
    rw [e2] at this
    injection this with e3
    subst e1; subst e3
    exact ⟨c1, h0⟩
theorem starV_len (l : List UInt8) : (5 ≤ l.length ∧ l.length ≤ 7) ∨ starV l = (0, 0, false) := by
  cases l with
  | nil => exact .inr rfl
  | cons b r =>
    by_cases h : b = 123 ∧ r.getLast? = some 125
    · have hne : r ≠ [] := fun e => by rw [e] at h; simp at h
      have hdl : r.dropLast.length = r.length - 1 := by simp
      have hpos : 0 < r.length := List.length_pos_iff.2 hne
      simp only [starV]
      rw [if_pos h]
      split
      · rename_i x y hsp
        split
        · rename_i hst
          left
          obtain ⟨⟨p, hp, ex⟩, q, hq, ey⟩ := star_small x y hst
          obtain ⟨e, _⟩ := splitL_two 47 _ x y hsp
          have hl := congrArg List.length e
          rw [List.length_append, List.length_cons] at hl
          have l1 := dd_len p
          have l2 := dd_len q
          have l3 := nt_min p
          have l4 := nt_min q
          rw [← ex] at l1 l3
          rw [← ey] at l2 l4
          rw [List.length_cons]
          omega
        · exact .inr rfl
      · exact .inr rfl
    · right
      simp only [starV]
      rw [if_neg h]
theorem spec_parse (s : ByteArray) (hs : s.size ≤ 1048576) (k : Nat) (hk : 60 ≤ k) : spec_ParseStar.f k s = some (starV s.data.toList) := by
  obtain ⟨k, rfl⟩ : ∃ t, k = t + 1 := ⟨k - 1, by omega⟩
  have hfin : ∀ r : Int × Int × Bool, spec_srParse.f (k + 1) s = some r → spec_ParseStar.f (k + 1) s = some r := fun r h => by
    unfold spec_ParseStar.f
    rw [h]
    rfl
  refine hfin _ ?_
  unfold spec_srParse.f
  rw [l1In_eq]
  simp only [Option.bind_some]
  by_cases h57 : 5 ≤ s.size ∧ s.size ≤ 7
  · rw [if_pos (decide_eq_true (by omega)), if_pos (by omega)]
    obtain ⟨b, r, hr⟩ : ∃ b r, s.data.toList = b :: r := by
      cases hd : s.data.toList with
      | nil => have := len_data s; rw [hd] at this; simp at this; omega
      | cons x l => exact ⟨x, l, rfl⟩
    have hl : s.size = r.length + 1 := by rw [← len_data, hr]; rfl
    have hb0 : bt s 0 = (b.toNat : Int) := by
      have := bt_get s 0 (by omega)
      simp only [hr, List.getElem_cons_zero] at this
      exact this
    obtain ⟨m, z, hm⟩ : ∃ m z, r = m ++ [z] := by
      rcases List.eq_nil_or_concat r with e | ⟨l, x, e⟩
      · rw [e] at hl; simp at hl; omega
      · rw [List.concat_eq_append] at e; exact ⟨l, x, e⟩
    have hml : r.length = m.length + 1 := by rw [hm]; simp
    have e0 : (s.size : Int) - 1 = ((m.length + 1 : Nat) : Int) := by omega
    have hbz : bt s ((m.length + 1 : Nat) : Int) = (z.toNat : Int) := by
      have := bt_get s (m.length + 1) (by omega)
      rw [this]
      congr 2
      simp only [hr, hm, List.getElem_cons_succ]
      rw [List.getElem_append_right (Nat.le_refl _)]
      simp
    rw [hb0]
    by_cases hb : b = 123
    · subst hb
      rw [if_pos (by decide), e0, wrap64_id (x := ((m.length + 1 : Nat) : Int)) (by omega) (by omega), if_pos (by omega), if_pos (by omega), hbz]
      simp only [spec_srParse.j0]
      by_cases hz : z = 125
      · subst hz
        have hV : starV s.data.toList = (match splitL 47 m with
          | [x, y] => if isStar (numV x) (numV y) then (numV x, numV y, true) else (0, 0, false)
          | _ => (0, 0, false)) := by
          rw [hr]
          simp only [starV]
          rw [if_pos ⟨trivial, by rw [hm]; simp⟩, hm, List.dropLast_concat]
        have ex : s.extract 1 (m.length + 1) = mkB m := by
          rw [mkB_extract s 1 (m.length + 1) (by omega), hr, hm]
          simp
        rw [if_neg (by decide), e0, wrap64_id (x := ((m.length + 1 : Nat) : Int)) (by omega) (by omega), if_pos (by omega), if_pos (by omega), Int.toNat_natCast, ex, show (47 : Int) = ((47 : UInt8).toNat : Int) from rfl, l1Split_eq (mkB m) 47 (by rw [mkB_size]; omega) k (by rw [mkB_size]; omega), mkB_data, hV]
        simp only [Option.bind_some]
        cases hsp : splitL 47 m with
        | nil => exact absurd hsp (splitL_ne 47 m)
        | cons x xs =>
          cases xs with
          | nil => rw [if_neg (by simp)]
          | cons y ys =>
            cases ys with
            | cons u us => rw [if_neg (by simp; omega)]
            | nil =>
              obtain ⟨e, _⟩ := splitL_two 47 m x y hsp
              have hxy : m.length = x.length + (y.length + 1) := by rw [e]; simp
              rw [if_pos (by simp), if_pos (by simp)]
              have g0 : rdOf ByteArray.empty ([x, y].map mkB) 0 = mkB x := rfl
              have g1 : rdOf ByteArray.empty ([x, y].map mkB) 1 = mkB y := rfl
              rw [g0, g1, l1Read_eq (mkB x) (by rw [mkB_size]; omega) k (by omega), l1Read_eq (mkB y) (by rw [mkB_size]; omega) k (by omega), mkB_data, mkB_data]
              simp only [Option.bind_some]
              rw [if_pos (by simp), srGood_eq]
              simp only [Option.bind_some]
              by_cases hst : isStar (readV x) (readV y)
              · have hst2 := (star_same x y).1 hst
                have h1 := (read_num x (readV x) (by unfold isStar at hst; omega)).1 rfl
                have h2 := (read_num y (readV y) (by unfold isStar at hst; omega)).1 rfl
                rw [if_pos (decide_eq_true hst), if_pos hst2, h1, h2]
              · have hst2 : ¬ isStar (numV x) (numV y) := fun h => hst ((star_same x y).2 h)
                rw [if_neg (by simpa using hst), if_neg hst2]
      · have hzb : ((z.toNat : Int) != 125) = true := by
          have : ¬ (z.toNat : Int) = 125 := fun e => hz ((u8_eq z 125 (by omega)).1 e)
          simpa using this
        rw [hzb, if_pos rfl, hr]
        simp only [starV]
        rw [if_neg (fun q => hz (by have h := q.2; rw [hm] at h; simpa using h))]
    · have hbb : ¬ (b.toNat : Int) = 123 := fun e => hb ((u8_eq b 123 (by omega)).1 e)
      rw [if_neg hbb]
      simp only [spec_srParse.j0]
      rw [if_pos trivial, hr]
      simp only [starV]
      rw [if_neg (fun q => hb q.1)]
  · rw [if_neg (by simp; omega)]
    simp only [spec_srParse.j0]
    rcases starV_len s.data.toList with h | h
    · rw [len_data] at h; exact absurd h h57
    · rw [h]; rfl
end Go.Proofs.YthmhfagnenoibaaGreatDoor.Q
end
section
namespace Go.Proofs.YthmhfagnenoibaaGreatDoor.X
open Go.RowKit Go.Proofs.YthmhfagnenoibaaGreatDoorW.PrintWords Go.Proofs.YthmhfagnenoibaaGreatDoorW.PrintLast Go.Proofs.YthmhfagnenoibaaGreatDoorW.PrintMore
attribute [local go_sem] max2_int min2_int max_two min_two max_three min_three max_four min_four
set_option linter.unusedVariables false
set_option linter.unusedSimpArgs false
open Go.Proofs.YthmhfagnenoibaaGreatDoor.Q
theorem uSame_self (l : List Int) (hl : l.length ≤ 9000) (K : Nat) (hK : l.length < K) : laws_uSame.f K l l = some true := by
  have h : ∀ (d k : Nat) (i : Int), 0 ≤ i → i ≤ l.length → (l.length : Int) - i = d → d < k → laws_uSame.l0 k l l (l.length : Int) i = some true := by
    intro d
    induction d with
    | zero =>
      intro k i h0 h1 hd hk
      obtain ⟨k, rfl⟩ : ∃ m, k = m + 1 := ⟨k - 1, by omega⟩
      simp only [laws_uSame.l0]
      rw [if_neg (by omega)]
    | succ d ih =>
      intro k i h0 h1 hd hk
      obtain ⟨k, rfl⟩ : ∃ m, k = m + 1 := ⟨k - 1, by omega⟩
      simp only [laws_uSame.l0]
      rw [if_pos (by omega), if_pos (by omega), if_pos (by omega), if_pos (by omega), if_pos trivial, wrap64_id (by omega) (by omega)]
      exact ih k (i + 1) (by omega) (by omega) (by omega) (by omega)
  unfold laws_uSame.f
  rw [if_pos rfl]
  exact h l.length K 0 (by omega) (by omega) (by omega) (by omega)
theorem rdL_len (l : List (List Int)) (B : Nat) (h : ∀ x ∈ l, x.length ≤ B) (i : Int) : (rd_L2 l i).length ≤ B := by
  unfold rd_L2
  rw [List.getD_eq_getElem?_getD]
  by_cases hi : i.toNat < l.length
  · rw [List.getElem?_eq_getElem hi, Option.getD_some]
    exact h _ (List.getElem_mem hi)
  · rw [List.getElem?_eq_none (by omega)]
    simp
theorem uRows_self (l : List (List Int)) (hl : l.length ≤ 9000) (h1000 : ∀ x ∈ l, x.length ≤ 1000) (K : Nat) (hK : l.length + 1001 < K) : laws_uRows.f K l l = some true := by
  have h : ∀ (d k : Nat) (i : Int), 0 ≤ i → i ≤ l.length → (l.length : Int) - i = d → d + 1001 < k → laws_uRows.l0 k l l (l.length : Int) i = some true := by
    intro d
    induction d with
    | zero =>
      intro k i h0 h1 hd hk
      obtain ⟨k, rfl⟩ : ∃ m, k = m + 1 := ⟨k - 1, by omega⟩
      simp only [laws_uRows.l0]
      rw [if_neg (by omega)]
    | succ d ih =>
      intro k i h0 h1 hd hk
      obtain ⟨k, rfl⟩ : ∃ m, k = m + 1 := ⟨k - 1, by omega⟩
      have hr := rdL_len l 1000 h1000 i
      simp only [laws_uRows.l0]
      rw [if_pos (by omega), if_pos (by omega), if_pos (by omega), if_pos (by omega), uSame_self _ (by omega) k (by omega)]
      simp only [Option.bind_some, if_true]
      rw [wrap64_id (by omega) (by omega)]
      exact ih k (i + 1) (by omega) (by omega) (by omega) (by omega)
  unfold laws_uRows.f
  rw [if_pos rfl]
  exact h l.length K 0 (by omega) (by omega) (by omega) (by omega)
theorem strL_rd (n s p : Int) (m i : Nat) (hi : i < m) : rd (strL n s p m) (i : Int) = (p + (i : Int) * s) % n := by
  unfold rd strL
  rw [List.getD_eq_getElem?_getD, List.getElem?_map, Int.toNat_natCast, List.getElem?_range hi]
  rfl
def afterV (n s p k : Int) : Int × Bool := if (isStar n s ∧ 0 ≤ p ∧ p < n) ∧ 0 ≤ k ∧ k ≤ 1000000 then ((p + k * s) % n, true) else (0, false)
theorem after_val (n s p k : Int) : impl_PointAfter.f n s p k = some (afterV n s p k) ∧ spec_PointAfter.f n s p k = some (afterV n s p k) := by
  unfold impl_PointAfter.f spec_PointAfter.f afterV
  simp only [Option.bind_some, srAsked_eq, isPoint_eq1, l1In_eq, within_eq]
  by_cases h : isStar n s ∧ 0 ≤ p ∧ p < n
  · have hs := h.1
    unfold isStar at hs
    simp only [if_pos (decide_eq_true h)]
    by_cases h2 : 0 ≤ k ∧ k ≤ 1000000
    · have hks : 0 ≤ k * s := Int.mul_nonneg h2.1 (by omega)
      have hks2 : k * s ≤ 1000000 * 60 := Int.mul_le_mul h2.2 (by omega) (by omega) (by omega)
      rw [if_pos (decide_eq_true h2), if_neg (by omega), if_pos ⟨h, h2⟩, wrap64_id (x := k * s) (by omega) (by omega), wrap64_id (by omega) (by omega), Int.tmod_eq_emod_of_nonneg (by omega)]
      exact ⟨rfl, rfl⟩
    · rw [if_neg (by simpa using h2), if_neg (fun q => h2 q.2)]
      exact ⟨rfl, rfl⟩
  · rw [if_neg (by simpa using h), if_neg (fun q => h q.1)]
    exact ⟨rfl, rfl⟩
def nextV (n s p : Int) : Int × Bool := if isStar n s ∧ 0 ≤ p ∧ p < n then ((p + s) % n, true) else (0, false)
theorem next_val (n s p : Int) : impl_NextPoint.f n s p = some (nextV n s p) ∧ spec_NextPoint.f n s p = some (nextV n s p) := by
  unfold impl_NextPoint.f spec_NextPoint.f nextV
  rw [(after_val n s p 1).1, srAsked_eq]
  unfold afterV
  simp only [Option.bind_some]
  by_cases h : isStar n s ∧ 0 ≤ p ∧ p < n
  · have hs := h.1
    unfold isStar at hs
    rw [if_pos ⟨h, by omega, by omega⟩, if_pos (decide_eq_true h), if_pos h, if_neg (by omega), wrap64_id (by omega) (by omega), Int.tmod_eq_emod_of_nonneg (by omega), Int.one_mul]
    exact ⟨rfl, rfl⟩
  · rw [if_neg (fun q => h q.1)]
    simp [h]
theorem after_facts (n s x k : Int) : ∃ r b, AfterVal n s x k r b := ⟨_, _, (after_val n s x k).1, (after_val n s x k).2⟩
theorem stringOf_both (n s p : Int) : ∃ r : List Int × Bool, r.1.length ≤ 60 ∧ r.2 = decide (isStar n s ∧ 0 ≤ p ∧ p < n) ∧ ∀ k, 61 ≤ k → spec_StringOf.f k n s p = some r ∧ impl_StringOf.f k n s p = some r := by
  unfold spec_StringOf.f impl_StringOf.f
  simp only [srAsked_eq, isPoint_eq1, Option.bind_some]
  by_cases h : isStar n s ∧ 0 ≤ p ∧ p < n
  · obtain ⟨m, hA⟩ := around_ex n s (by have := h.1; unfold isStar at this; omega)
    refine ⟨(strL n s p m, true), ?_, (decide_eq_true h).symm, fun k hk => ?_⟩
    · rw [strL_len]
      have := h.1; unfold isStar at this; have := hA.2.1; omega
    · simp only [if_pos (decide_eq_true h), srString_eq n s p m h.1 h.2 hA k hk, stringOf_eq n s p m h.1 h.2 hA k hk, Option.bind_some]
      exact ⟨trivial, trivial⟩
  · refine ⟨([], false), by simp, (decide_eq_false h).symm, fun k _ => ?_⟩
    simp [decide_eq_false h]
theorem pt_facts (n s x : Int) (K : Nat) (hK : K = 10000) : ∃ L y nx, (L.length ≤ 60 ∧ impl_StringOf.f K n s x = some (L, y) ∧ spec_StringOf.f K n s x = some (L, y) ∧ impl_NextPoint.f n s x = some (nx, y) ∧ spec_NextPoint.f n s x = some (nx, y) ∧ laws_uSame.f K L L = some true) := by
  obtain ⟨⟨L, y⟩, h1, h2, h3⟩ := stringOf_both n s x
  simp only at h1 h2
  have hn := next_val n s x
  have e : nextV n s x = ((nextV n s x).1, y) := by
    unfold nextV
    rw [h2]
    split
    · rename_i h; rw [decide_eq_true h]
    · rename_i h; rw [decide_eq_false h]
  rw [e] at hn
  exact ⟨L, y, _, h1, (h3 K (by omega)).2, (h3 K (by omega)).1, hn.1, hn.2, uSame_self L (by omega) K (by omega)⟩
theorem between_loop (l : List Int) (v : Int) (hl : l.length ≤ 1000) (d : Nat) : ∀ (k k' : Nat) (i : Int), 0 ≤ i → i ≤ l.length → (l.length : Int) - i = d → d < k → d < k' →
    ∃ r : Int, slices_Index_int_int.l0 k l v l.length i = some r ∧ spec_StepsBetween.l0 k' v l l.length i = some (mx 0 r, decide (r ≥ 0)) ∧ ((r = -1 ∧ ∀ j, i ≤ j → j < l.length → rd l j ≠ v) ∨ (i ≤ r ∧ r < l.length ∧ rd l r = v ∧ ∀ j, i ≤ j → j < r → rd l j ≠ v)) := by
  induction d with
  | zero =>
    intro k k' i h0 h1 hd hk hk'
    obtain ⟨k, rfl⟩ : ∃ m, k = m + 1 := ⟨k - 1, by omega⟩
    obtain ⟨k', rfl⟩ : ∃ m, k' = m + 1 := ⟨k' - 1, by omega⟩
    simp only [slices_Index_int_int.l0, spec_StepsBetween.l0]
    rw [if_neg (by omega), if_neg (by omega)]
    exact ⟨-1, rfl, rfl, .inl ⟨rfl, fun j h2 h3 => by omega⟩⟩
  | succ d ih =>
    intro k k' i h0 h1 hd hk hk'
    obtain ⟨k, rfl⟩ : ∃ m, k = m + 1 := ⟨k - 1, by omega⟩
    obtain ⟨k', rfl⟩ : ∃ m, k' = m + 1 := ⟨k' - 1, by omega⟩
    simp only [slices_Index_int_int.l0, spec_StepsBetween.l0]
    simp only [if_pos (show i < (l.length : Int) by omega), if_pos (show 0 ≤ i by omega), wrap64_id (x := i + 1) (by omega) (by omega)]
    by_cases e : v = rd l i
    · rw [if_pos e, if_pos e.symm]
      refine ⟨i, rfl, ?_, .inr ⟨by omega, by omega, e.symm, fun j h2 h3 => by omega⟩⟩
      have e1 : mx 0 i = i := by unfold mx; split <;> omega
      rw [e1, decide_eq_true (by omega : i ≥ 0)]
    · rw [if_neg e, if_neg (fun x => e x.symm)]
      obtain ⟨r, r1, r2, r3⟩ := ih k k' (i + 1) (by omega) (by omega) (by omega) (by omega) (by omega)
      refine ⟨r, r1, r2, ?_⟩
      have hi : ∀ j, i ≤ j → j = i ∨ i + 1 ≤ j := fun j h => by omega
      rcases r3 with ⟨a1, a2⟩ | ⟨a1, a2, a3, a4⟩
      · refine .inl ⟨a1, fun j h2 h3 => ?_⟩
        rcases hi j h2 with rfl | h4
        · exact fun x => e x.symm
        · exact a2 j h4 h3
      · refine .inr ⟨by omega, a2, a3, fun j h2 h3 => ?_⟩
        rcases hi j h2 with rfl | h4
        · exact fun x => e x.symm
        · exact a4 j h4 h3
theorem steps_val (n s a b : Int) (K : Nat) (hK : K = 10000) : ∃ r : Int × Bool, spec_StepsBetween.f K n s a b = some r ∧ impl_StepsBetween.f K n s a b = some r ∧
    ((isStar n s ∧ 0 ≤ a ∧ a < n) → ∀ m, Around n s m → ∀ q : Nat, q < m → b = (a + (q : Int) * s) % n → (∀ j : Nat, j < q → (a + (j : Int) * s) % n ≠ b) → r = ((q : Int), true)) ∧
    (r.2 = true → (isStar n s ∧ 0 ≤ a ∧ a < n) ∧ 0 ≤ r.1 ∧ r.1 ≤ 60 ∧ (a + r.1 * s) % n = b) := by
  obtain ⟨K', hK'⟩ : ∃ m, K = m + 1 := ⟨9999, by omega⟩
  unfold spec_StepsBetween.f impl_StepsBetween.f
  simp only [srAsked_eq, isPoint_eq2, Option.bind_some]
  by_cases h : isStar n s ∧ 0 ≤ a ∧ a < n
  · have hs := h.1
    unfold isStar at hs
    obtain ⟨m, hA⟩ := around_ex n s (by omega)
    simp only [if_pos (decide_eq_true h)]
    rw [wrap64_id (by omega) (by omega), l1In_eq]
    simp only [Option.bind_some]
    rw [hK']
    simp only [spec_StepsBetween.j0]
    by_cases hb : 0 ≤ b ∧ b < n
    · have hb' : 0 ≤ b ∧ b ≤ n - 1 := by omega
      have hlen : (strL n s a m).length = m := strL_len n s a m
      have hm := hA.2.1
      obtain ⟨r, r1, r2, r3⟩ := between_loop (strL n s a m) b (by omega) m (K' + 1) K' 0 (by omega) (by omega) (by omega) (by omega) (by omega)
      refine ⟨(mx 0 r, decide (r ≥ 0)), ?_, ?_, ?_, ?_⟩
      · rw [decide_eq_true hb']
        simp only [Bool.not_true, Bool.false_eq_true, if_false]
        rw [srString_eq n s a m h.1 h.2 hA K' (by omega)]
        simp only [Option.bind_some]
        exact r2
      · rw [if_pos (decide_eq_true ⟨h.1, h.2, hb⟩), stringOf_eq n s a m h.1 h.2 hA (K' + 1) (by omega)]
        simp only [Option.bind_some]
        unfold slices_Index_int_int.f
        rw [r1]
        rfl
      · intro _ m' hA' q hq hbq hfirst
        have hmm : m' = m := by
          obtain ⟨a1, a2, a3, a4⟩ := hA
          obtain ⟨b1, b2, b3, b4⟩ := hA'
          rcases Nat.lt_trichotomy m' m with c | c | c
          · exact absurd b3 (a4 m' b1 c)
          · exact c
          · exact absurd a3 (b4 m a1 c)
        subst hmm
        have hrq := strL_rd n s a m' q hq
        rcases r3 with ⟨_, a2⟩ | ⟨a1, a2, a3, a4⟩
        · exact absurd (hrq.trans hbq.symm) (a2 q (by omega) (by omega))
        · have hrt : ((r.toNat : Nat) : Int) = r := by omega
          have hr2 := strL_rd n s a m' r.toNat (by omega)
          rw [hrt, a3] at hr2
          have e1 : r = (q : Int) := by
            rcases Int.lt_trichotomy r (q : Int) with c | c | c
            · exact absurd (by rw [hrt]; exact hr2.symm) (hfirst r.toNat (by omega))
            · exact c
            · exact absurd (hrq.trans hbq.symm) (a4 q (by omega) c)
          rw [e1]
          have e2 : mx 0 (q : Int) = q := by unfold mx; split <;> omega
          rw [e2, decide_eq_true (by omega : (q : Int) ≥ 0)]
      · intro hr
        have hr0 : r ≥ 0 := of_decide_eq_true hr
        have e2 : mx 0 r = r := by unfold mx; split <;> omega
        rcases r3 with ⟨a1, a2⟩ | ⟨a1, a2, a3, a4⟩
        · omega
        · have hrt : ((r.toNat : Nat) : Int) = r := by omega
          have hr2 := strL_rd n s a m r.toNat (by omega)
          rw [hrt, a3] at hr2
          simp only [e2]
          exact ⟨h, hr0, by omega, hr2.symm⟩
    · have hb' : ¬ (0 ≤ b ∧ b ≤ n - 1) := by omega
      refine ⟨(0, false), ?_, ?_, ?_, ?_⟩
      · rw [decide_eq_false hb']; rfl
      · rw [if_neg (by simpa using fun _ _ _ x => by omega)]
      · intro _ m' _ q _ hbq _
        exact absurd ⟨by rw [hbq]; exact Int.emod_nonneg _ (by omega), by rw [hbq]; exact Int.emod_lt_of_pos _ (by omega)⟩ hb
      · intro q; exact absurd q (by simp)
  · refine ⟨(0, false), ?_, ?_, fun q => absurd q h, fun q => absurd q (by simp)⟩
    · rw [hK']
      simp [decide_eq_false h, spec_StepsBetween.j0]
    · rw [if_neg (by
        rw [decide_eq_true_eq]
        exact fun x => h ⟨x.1, x.2.1⟩)]
theorem stepTo_same : ∀ (k : Nat) (n a b c s : Int), spec_StepTo.l0 k n a b c s = impl_StepTo.l0 k n a b c s
  | 0, _, _, _, _, _ => by simp only [spec_StepTo.l0, impl_StepTo.l0]
  | k + 1, n, a, b, c, s => by simp only [spec_StepTo.l0, impl_StepTo.l0, stepTo_same k]
theorem stepTo_loop (n a b c : Int) (hn : 3 ≤ n ∧ n ≤ 60) (ha : 0 ≤ a ∧ a < n) (hc : 1 ≤ c ∧ c ≤ 60) (d : Nat) : ∀ (k : Nat) (s : Int), 1 ≤ s → s ≤ n → n - s = d → d < k → (∀ l, 1 ≤ l → l < s → (a + c * l) % n ≠ b) →
    ∃ r y, impl_StepTo.l0 k n a b c s = some (r, y) ∧ (y = true → 1 ≤ r ∧ r < n ∧ (a + c * r) % n = b ∧ ∀ l, 1 ≤ l → l < r → (a + c * l) % n ≠ b) := by
  induction d with
  | zero =>
    intro k s h1 h2 hd hk hl
    obtain ⟨k, rfl⟩ : ∃ m, k = m + 1 := ⟨k - 1, by omega⟩
    simp only [impl_StepTo.l0]
    rw [if_neg (by omega)]
    exact ⟨_, _, rfl, fun x => absurd x (by simp)⟩
  | succ d ih =>
    intro k s h1 h2 hd hk hl
    obtain ⟨k, rfl⟩ : ∃ m, k = m + 1 := ⟨k - 1, by omega⟩
    have hks : 0 ≤ c * s := Int.mul_nonneg (by omega) (by omega)
    have hks2 : c * s ≤ 60 * 60 := Int.mul_le_mul hc.2 (by omega) (by omega) (by omega)
    simp only [impl_StepTo.l0]
    rw [if_pos (by omega), if_neg (by omega), wrap64_id (x := c * s) (by omega) (by omega), wrap64_id (x := a + c * s) (by omega) (by omega), Int.tmod_eq_emod_of_nonneg (by omega)]
    by_cases e : (a + c * s) % n = b
    · rw [if_pos e]
      exact ⟨_, _, rfl, fun _ => ⟨h1, by omega, e, hl⟩⟩
    · rw [if_neg e, wrap64_id (by omega) (by omega)]
      refine ih k (s + 1) (by omega) (by omega) (by omega) (by omega) (fun l h3 h4 => ?_)
      rcases (show l < s ∨ l = s by omega) with h5 | rfl
      · exact hl l h3 h5
      · exact e
theorem to_facts (n a b c : Int) (K : Nat) (hK : K = 10000) : ∃ r y, impl_StepTo.f K n a b c = some (r, y) ∧ spec_StepTo.f K n a b c = some (r, y) ∧ (y = true → impl_PointAfter.f n r a c = some (b, true)) ∧ (y = true → r ≤ 60 ∧ ∀ l : Int, 1 ≤ l → l < r → ∃ e, impl_PointAfter.f n l a c = some (e, true) ∧ e ≠ b) := by
  obtain ⟨K', hK'⟩ : ∃ m, K = m + 1 := ⟨9999, by omega⟩
  unfold spec_StepTo.f impl_StepTo.f
  rw [srPoints_eq, isCircle_eq]
  simp only [Option.bind_some, l1In_eq, within_eq]
  rw [hK']
  have hno : spec_StepTo.j0 (K' + 1) n a b c true = some (0, false) ∧ impl_StepTo.j0 (K' + 1) n a b c true = some (0, false) := by simp [spec_StepTo.j0, impl_StepTo.j0]
  have ff : ∀ P : Prop, ((false : Bool) = true → P) := fun P h => by simp at h
  by_cases h : 3 ≤ n ∧ n ≤ 60
  · rw [wrap64_id (x := n - 1) (by omega) (by omega)]
    simp only [if_pos (decide_eq_true h)]
    by_cases ha : 0 ≤ a ∧ a ≤ n - 1
    · simp only [if_pos (decide_eq_true ha)]
      by_cases hb : 0 ≤ b ∧ b ≤ n - 1
      · simp only [if_pos (decide_eq_true hb)]
        by_cases hc : 1 ≤ c ∧ c ≤ 60
        · rw [decide_eq_true hc]
          obtain ⟨r, y, e, hy⟩ := stepTo_loop n a b c h (by omega) hc (n - 1).toNat K' 1 (by omega) (by omega) (by omega) (by omega) (fun l h1 h2 => by omega)
          have hA : ∀ l : Int, 1 ≤ l → l < n → impl_PointAfter.f n l a c = some ((a + c * l) % n, true) := fun l h1 h2 => by
            rw [(after_val n l a c).1]
            unfold afterV isStar
            rw [if_pos ⟨⟨⟨by omega, by omega, by omega, by omega⟩, by omega, by omega⟩, by omega, by omega⟩]
          refine ⟨r, y, ?_, ?_, fun q => ?_, fun q => ?_⟩
          · simp only [impl_StepTo.j0]; exact e
          · simp only [spec_StepTo.j0]; rw [stepTo_same]; exact e
          · obtain ⟨y1, y2, y3, y4⟩ := hy q
            rw [hA r y1 y2, y3]
          · obtain ⟨y1, y2, y3, y4⟩ := hy q
            exact ⟨by omega, fun l h1 h2 => ⟨_, hA l h1 (by omega), y4 l h1 h2⟩⟩
        · rw [decide_eq_false hc]
          exact ⟨0, false, hno.2, hno.1, ff _, ff _⟩
      · simp only [decide_eq_false hb, Bool.false_eq_true, if_false]
        exact ⟨0, false, hno.2, hno.1, ff _, ff _⟩
    · simp only [decide_eq_false ha, Bool.false_eq_true, if_false]
      exact ⟨0, false, hno.2, hno.1, ff _, ff _⟩
  · simp only [decide_eq_false h, Bool.false_eq_true, if_false]
    exact ⟨0, false, hno.2, hno.1, ff _, ff _⟩
theorem lit1 (b : UInt8) : (⟨#[b]⟩ : ByteArray).size = 1 := rfl
def textB (n s : Int) : ByteArray := ((((⟨#[123]⟩ : ByteArray) ++ nt n) ++ (⟨#[47]⟩ : ByteArray)) ++ nt s) ++ (⟨#[125]⟩ : ByteArray)
theorem textB_list (n s : Int) : (textB n s).data.toList = 123 :: (dd n.toNat ++ 47 :: (dd s.toNat ++ [125])) := by
  unfold textB nt
  simp
theorem textB_size (n s : Int) : (textB n s).size ≤ 7 := by
  have h1 := nt_size n
  have h2 := nt_size s
  unfold textB
  rw [ByteArray.size_append, ByteArray.size_append, ByteArray.size_append, ByteArray.size_append, lit1, lit1, lit1]
  omega
theorem srText_val (n s : Int) (hn : 0 ≤ n ∧ n < 100) (hs : 0 ≤ s ∧ s < 100) (K : Nat) (hK : 10 ≤ K) : spec_srText.f K n s = some (textB n s) := by
  have h1 := nt_size n
  have h2 := nt_size s
  unfold spec_srText.f textB
  rw [num_eq n hn K hK, num_eq s hs K hK]
  generalize nt n = x at h1
  generalize nt s = y at h2
  have c1 : 1 + x.size ≤ 9223372036854775807 := by omega
  have c2 : ((⟨#[123]⟩ : ByteArray) ++ x).size + 1 ≤ 9223372036854775807 := by rw [ByteArray.size_append, lit1]; omega
  have c3 : (((⟨#[123]⟩ : ByteArray) ++ x) ++ (⟨#[47]⟩ : ByteArray)).size + y.size ≤ 9223372036854775807 := by rw [ByteArray.size_append, ByteArray.size_append, lit1, lit1]; omega
  have c4 : ((((⟨#[123]⟩ : ByteArray) ++ x) ++ (⟨#[47]⟩ : ByteArray)) ++ y).size + 1 ≤ 9223372036854775807 := by rw [ByteArray.size_append, ByteArray.size_append, ByteArray.size_append, lit1, lit1]; omega
  simp only [if_pos c1, if_pos c2, if_pos c3, if_pos c4, Option.bind_some]
theorem text_val (n s : Int) (K : Nat) (hK : 10 ≤ K) : impl_StarText.f n s = some (if isStar n s then (textB n s, true) else (⟨#[]⟩, false)) ∧ spec_StarText.f K n s = some (if isStar n s then (textB n s, true) else (⟨#[]⟩, false)) := by
  unfold spec_StarText.f impl_StarText.f
  rw [srGood_eq, implIsStar_eq]
  simp only [Option.bind_some]
  by_cases h : isStar n s
  · have h' := h
    unfold isStar at h'
    rw [if_pos (decide_eq_true h), if_pos (decide_eq_true h), if_pos h, srText_val n s (by omega) (by omega) K hK, itoa_eq n (by omega), itoa_eq s (by omega)]
    have h1 := nt_size n
    have h2 := nt_size s
    unfold textB
    generalize nt n = x at h1
    generalize nt s = y at h2
    have c1 : 1 + x.size ≤ 9223372036854775807 := by omega
    have c2 : ((⟨#[123]⟩ : ByteArray) ++ x).size + 1 ≤ 9223372036854775807 := by rw [ByteArray.size_append, lit1]; omega
    have c3 : (((⟨#[123]⟩ : ByteArray) ++ x) ++ (⟨#[47]⟩ : ByteArray)).size + y.size ≤ 9223372036854775807 := by rw [ByteArray.size_append, ByteArray.size_append, lit1, lit1]; omega
    have c4 : ((((⟨#[123]⟩ : ByteArray) ++ x) ++ (⟨#[47]⟩ : ByteArray)) ++ y).size + 1 ≤ 9223372036854775807 := by rw [ByteArray.size_append, ByteArray.size_append, ByteArray.size_append, lit1, lit1]; omega
    simp only [if_pos c1, if_pos c2, if_pos c3, if_pos c4, Option.bind_some]
    exact ⟨trivial, trivial⟩
  · simp [h]
theorem text_read (n s : Int) (h : isStar n s) : starV (textB n s).data.toList = (n, s, true) := by
  have h' := h
  unfold isStar at h'
  have c1 : (dd n.toNat).count 47 = 0 := dd_clean _ (by omega)
  have c2 : (dd s.toNat).count 47 = 0 := dd_clean _ (by omega)
  have n1 := dd_numV n.toNat (by omega)
  have n2 := dd_numV s.toNat (by omega)
  rw [Int.toNat_of_nonneg (by omega)] at n1 n2
  rw [textB_list]
  have e : dd n.toNat ++ 47 :: (dd s.toNat ++ [125]) = (dd n.toNat ++ 47 :: dd s.toNat) ++ [125] := by simp
  simp only [starV]
  rw [e, if_pos ⟨trivial, List.getLast?_concat⟩, List.dropLast_concat, splitL_at 47 _ _ c1, splitL_none 47 _ c2]
  simp only
  rw [n1, n2, if_pos h]
theorem read_text (l : List UInt8) (p q : Int) (h : starV l = (p, q, true)) : isStar p q ∧ l = 123 :: (dd p.toNat ++ 47 :: (dd q.toNat ++ [125])) := by
  cases l with
  | nil => simp [starV] at h
  | cons b r =>
    simp only [starV] at h
    by_cases hc : b = 123 ∧ r.getLast? = some 125
    · rw [if_pos hc] at h
      split at h
      · rename_i x y hsp
        by_cases hst : isStar (numV x) (numV y)
        · rw [if_pos hst] at h
          injection h with h1 h2
          injection h2 with h2 _
          obtain ⟨e, _⟩ := splitL_two 47 _ x y hsp
          have hst' := hst
          unfold isStar at hst'
          have ex := numV_dd x (numV x) (by omega) rfl
          have ey := numV_dd y (numV y) (by omega) rfl
          rw [h1] at hst ex
          rw [h2] at hst ey
          refine ⟨hst, ?_⟩
          have hr : r = r.dropLast ++ [125] := by
            rcases List.eq_nil_or_concat r with e0 | ⟨m, z, e0⟩
            · rw [e0] at hc; simp at hc
            · rw [List.concat_eq_append] at e0
              rw [e0] at hc
              simp at hc
              rw [e0, List.dropLast_concat, hc.2]
          rw [hc.1, hr, e, ex, ey]
          simp
        · rw [if_neg hst] at h; simp at h
      · simp at h
    · rw [if_neg hc] at h; simp at h
theorem read_facts (t : ByteArray) (ht : t.size ≤ 100) (K : Nat) (hK : 60 ≤ K) : ∃ p s b, impl_ParseStar.f t = some (p, s, b) ∧ spec_ParseStar.f K t = some (p, s, b) ∧ (b = true → impl_StarText.f p s = some (t, true)) := by
  obtain ⟨p, s, b, e⟩ : ∃ p s b, starV t.data.toList = (p, s, b) := ⟨_, _, _, rfl⟩
  refine ⟨p, s, b, ?_, ?_, fun hb => ?_⟩
  · rw [impl_parse t (by omega), e]
  · rw [spec_parse t (by omega) K hK, e]
  · subst hb
    obtain ⟨h1, h2⟩ := read_text _ p s e
    rw [(text_val p s 10 (by omega)).1, if_pos h1]
    have : textB p s = t := by
      rw [← textB_list] at h2
      have h3 : (textB p s).data = t.data := Array.toList_inj.1 h2.symm
      cases ht2 : textB p s
      cases t
      rw [ht2] at h3
      exact congrArg ByteArray.mk h3
    rw [this]
theorem tx_facts (p s : Int) (h0 : 3 ≤ p) (h1 : p ≤ 14) (h2 : 1 ≤ s) (h3 : s < p) (K : Nat) (hK : 60 ≤ K) : ∃ t : ByteArray, spec_srText.f K p s = some t ∧ t.size ≤ 50 :=
  ⟨_, srText_val p s (by omega) (by omega) K (by omega), by have := textB_size p s; omega⟩
theorem star_vals (n s : Int) (K : Nat) (hK : K = 10000) : ∃ R b cnt tu sm tx, (impl_StringsOf.f K n s = some (R, b) ∧ spec_StringsOf.f K n s = some (R, b) ∧ impl_CountStrings.f K n s = some (cnt, b) ∧ spec_CountStrings.f K n s = some (cnt, b) ∧ impl_TurnsOf.f K n s = some (tu, b) ∧ spec_TurnsOf.f K n s = some (tu, b) ∧ impl_SmallStep.f n s = some (sm, b) ∧ spec_SmallStep.f n s = some (sm, b) ∧ impl_StarText.f n s = some (tx, b) ∧ spec_StarText.f K n s = some (tx, b) ∧ impl_IsStar.f n s = some b ∧ spec_IsStar.f n s = some b ∧ laws_uRows.f K R R = some true) ∧
    (b = true → isStar n s ∧ (∃ m, Around n s m ∧ R = strsL n s m (Int.gcd n s)) ∧ cnt = (Int.gcd n s : Nat) ∧ tu = s / (Int.gcd n s : Nat) ∧ (0 ≤ sm ∧ sm ≤ s ∧ 2 * sm ≤ n) ∧ tx = textB n s) := by
  by_cases h : isStar n s
  · have h' := h
    unfold isStar at h'
    obtain ⟨m, hA⟩ := around_ex n s (by omega)
    have hm := hA.2.1
    obtain ⟨g, hg⟩ : ∃ g : Nat, (Int.gcd n s : Nat) = g := ⟨_, rfl⟩
    have hgs : (g : Int) ≤ s := by
      rw [← hg]
      exact Int.le_of_dvd (by omega) (Int.gcd_dvd_right ..)
    have hg0 : 0 < g := by
      rw [← hg]
      exact Int.gcd_pos_of_ne_zero_left _ (by omega)
    have e1 := specStrings_loop n s m g h hA hg (by omega) g K 0 (by omega) (by omega)
    have e2 := implStrings_loop n s m g h hA (by omega) g K 0 (by omega) (by omega)
    have e0 : strsL n s m 0 = [] := rfl
    rw [e0] at e1 e2
    have hlen : ∀ x ∈ strsL n s m g, x.length ≤ 1000 := by
      intro x hx
      unfold strsL at hx
      obtain ⟨i, _, rfl⟩ := List.mem_map.1 hx
      rw [strL_len]
      omega
    have htx := text_val n s K (by omega)
    rw [if_pos h] at htx
    have hmn : mn s (n - s) = if s < n - s then s else n - s := by unfold mn; split <;> split <;> omega
    have ht0 : 0 ≤ s / (g : Int) ∧ s / (g : Int) ≤ s := ⟨Int.ediv_nonneg (by omega) (by omega), Int.ediv_le_self _ (by omega)⟩
    refine ⟨strsL n s m g, true, (g : Int), s / (g : Int), mn s (n - s), textB n s, ⟨?_, ?_, ?_, ?_, ?_, ?_, ?_, ?_, htx.1, htx.2, ?_, ?_, ?_⟩, fun _ => ⟨h, ⟨m, hA, by rw [hg]⟩, by rw [hg], by rw [hg], ?_, rfl⟩⟩
    · unfold impl_StringsOf.f
      rw [implIsStar_eq]
      simp only [Option.bind_some, decide_eq_true h, if_true, strings_eq K n s (by omega) (by omega) (by omega), hg]
      exact e2
    · unfold spec_StringsOf.f
      rw [srGood_eq]
      simp only [Option.bind_some, decide_eq_true h, if_true]
      exact e1
    · unfold impl_CountStrings.f
      rw [implIsStar_eq]
      simp only [Option.bind_some, decide_eq_true h, if_true, strings_eq K n s (by omega) (by omega) (by omega), hg]
    · unfold spec_CountStrings.f
      rw [srGood_eq]
      simp only [Option.bind_some, decide_eq_true h, if_true, common_eq K n s (by omega) (by omega) (by omega), hg]
    · unfold impl_TurnsOf.f
      rw [implIsStar_eq]
      simp only [Option.bind_some, decide_eq_true h, if_true, strings_eq K n s (by omega) (by omega) (by omega), hg]
      rw [if_neg (by omega), Int.tdiv_eq_ediv_of_nonneg (by omega), wrap64_id (by omega) (by omega)]
    · unfold spec_TurnsOf.f
      rw [srGood_eq]
      simp only [Option.bind_some, decide_eq_true h, if_true, common_eq K n s (by omega) (by omega) (by omega), hg]
      rw [if_neg (by omega), Int.tdiv_eq_ediv_of_nonneg (by omega), wrap64_id (by omega) (by omega)]
    · unfold impl_SmallStep.f
      rw [implIsStar_eq]
      simp only [Option.bind_some, decide_eq_true h, if_true]
      rw [wrap64_id (by omega) (by omega)]
    · unfold spec_SmallStep.f spec_l1Least.f
      rw [srGood_eq]
      simp only [Option.bind_some, decide_eq_true h, if_true]
      rw [wrap64_id (by omega) (by omega), hmn]
      split <;> rfl
    · rw [implIsStar_eq, decide_eq_true h]
    · unfold spec_IsStar.f
      rw [srGood_eq, decide_eq_true h]
      rfl
    · exact uRows_self _ (by rw [strsL_len]; omega) hlen K (by rw [strsL_len]; omega)
    · rw [hmn]
      split <;> omega
  · refine ⟨[], false, 0, 0, 0, ⟨#[]⟩, ⟨?_, ?_, ?_, ?_, ?_, ?_, ?_, ?_, ?_, ?_, ?_, ?_, ?_⟩, fun x => absurd x (by simp)⟩
    · unfold impl_StringsOf.f; rw [implIsStar_eq]; simp [h]
    · unfold spec_StringsOf.f; rw [srGood_eq]; simp [h]
    · unfold impl_CountStrings.f; rw [implIsStar_eq]; simp [h]
    · unfold spec_CountStrings.f; rw [srGood_eq]; simp [h]
    · unfold impl_TurnsOf.f; rw [implIsStar_eq]; simp [h]
    · unfold spec_TurnsOf.f; rw [srGood_eq]; simp [h]
    · unfold impl_SmallStep.f; rw [implIsStar_eq]; simp [h]
    · unfold spec_SmallStep.f; rw [srGood_eq]; simp [h]
    · rw [(text_val n s K (by omega)).1, if_neg h]
    · rw [(text_val n s K (by omega)).2, if_neg h]
    · rw [implIsStar_eq, decide_eq_false h]
    · unfold spec_IsStar.f; rw [srGood_eq, decide_eq_false h]; rfl
    · exact uRows_self [] (by simp) (by simp) K (by simp; omega)
theorem rd_strsL (n s : Int) (m g i : Nat) (hi : i < g) : rd_L2 (strsL n s m g) (i : Int) = strL n s (i : Int) m := by
  unfold rd_L2 strsL
  rw [List.getD_eq_getElem?_getD, Int.toNat_natCast, List.getElem?_map, List.getElem?_range hi]
  rfl
theorem rows_facts (n s : Int) (m i : Nat) (h : isStar n s) (hA : Around n s m) (hi : i < Int.gcd n s) (K : Nat) (hK : K = 10000) :
    (2 ≤ (strL n s (i : Int) m).length ∧ (strL n s (i : Int) m).length ≤ 60) ∧ rd (strL n s (i : Int) m) 0 = (i : Int) ∧ ((strL n s (i : Int) m).length : Int) * s = (s / (Int.gcd n s : Nat)) * n ∧
    ∀ k : Nat, k < (strL n s (i : Int) m).length → (0 ≤ rd (strL n s (i : Int) m) (k : Int) ∧ rd (strL n s (i : Int) m) (k : Int) < n) ∧ impl_NextPoint.f n s (rd (strL n s (i : Int) m) (k : Int)) = some (rd (strL n s (i : Int) m) (Int.tmod ((k : Int) + 1) ((strL n s (i : Int) m).length : Int)), true) ∧ impl_PointAfter.f n s (i : Int) (k : Int) = some (rd (strL n s (i : Int) m) (k : Int), true) ∧ impl_StepsBetween.f K n s (i : Int) (rd (strL n s (i : Int) m) (k : Int)) = some ((k : Int), true) := by
  have h' := h
  unfold isStar at h'
  have hmul := around_mul n s m h hA
  obtain ⟨a1, a2, a3, a4⟩ := id hA
  have hgs : ((Int.gcd n s : Nat) : Int) ≤ s := Int.le_of_dvd (by omega) (Int.gcd_dvd_right ..)
  have hdv : s / ((Int.gcd n s : Nat) : Int) * ((Int.gcd n s : Nat) : Int) = s := Int.ediv_mul_cancel (Int.gcd_dvd_right ..)
  have hinj := fun a b => str_inj n s m h hA i i a b hi hi
  have hin : (i : Int) < n := by omega
  rw [strL_len]
  obtain ⟨g, hg⟩ : ∃ g : Nat, (Int.gcd n s : Nat) = g := ⟨_, rfl⟩
  rw [hg] at hmul hgs hdv hi
  rw [hg]
  have hmg : (m : Int) * (g : Int) = n := by
    have := congrArg (fun x : Nat => (x : Int)) hmul
    simp only [Int.natCast_mul] at this
    omega
  refine ⟨⟨?_, by omega⟩, ?_, ?_, fun k hk => ?_⟩
  · rcases Nat.lt_or_ge m 2 with c | c
    · obtain rfl : m = 1 := by omega
      simp at hmg
      omega
    · exact c
  · have := strL_rd n s (i : Int) m 0 (by omega)
    rw [show ((0 : Nat) : Int) = 0 from rfl, Int.zero_mul, Int.add_zero, Int.emod_eq_of_lt (by omega) hin] at this
    exact this
  · calc (m : Int) * s = (m : Int) * (s / (g : Int) * (g : Int)) := by rw [hdv]
      _ = s / (g : Int) * ((m : Int) * (g : Int)) := by rw [Int.mul_left_comm]
      _ = s / (g : Int) * n := by rw [hmg]
  · have b1 := Int.emod_nonneg ((i : Int) + (k : Int) * s) (show n ≠ 0 by omega)
    have b2 := Int.emod_lt_of_pos ((i : Int) + (k : Int) * s) (show 0 < n by omega)
    rw [strL_rd n s (i : Int) m k hk]
    refine ⟨⟨b1, b2⟩, ?_, ?_, ?_⟩
    · rw [(next_val n s _).1]
      unfold nextV
      rw [if_pos ⟨h, b1, b2⟩]
      have e1 : (((i : Int) + (k : Int) * s) % n + s) % n = ((i : Int) + ((k + 1 : Nat) : Int) * s) % n := by
        rw [Int.emod_add_emod]
        congr 1
        rw [Int.natCast_add, Int.add_mul]
        omega
      rw [e1, Int.tmod_eq_emod_of_nonneg (by omega)]
      by_cases hlt : k + 1 < m
      · rw [Int.emod_eq_of_lt (a := (k : Int) + 1) (b := (m : Int)) (by omega) (by omega)]
        have := strL_rd n s (i : Int) m (k + 1) hlt
        rw [show ((k + 1 : Nat) : Int) = (k : Int) + 1 by omega] at this ⊢
        rw [this]
      · obtain rfl : m = k + 1 := by omega
        rw [show (k : Int) + 1 = ((k + 1 : Nat) : Int) by omega, Int.emod_self]
        have := strL_rd n s (i : Int) (k + 1) 0 (by omega)
        rw [show ((0 : Nat) : Int) = 0 from rfl] at this
        rw [this, (mod_back (i : Int) _ n (by omega) hin).2 a3]
        simp
        exact (Int.emod_eq_of_lt (by omega) hin).symm
    · rw [(after_val n s _ _).1]
      unfold afterV
      rw [if_pos ⟨⟨h, by omega, hin⟩, by omega, by omega⟩]
    · obtain ⟨r, _, r2, r3, _⟩ := steps_val n s (i : Int) (((i : Int) + (k : Int) * s) % n) K hK
      rw [r2, r3 ⟨h, by omega, hin⟩ m hA k hk rfl (fun j hj e => ?_)]
      have := (hinj j k (by omega) hk e).2
      omega
theorem star_facts (n s : Int) : ∃ R b cnt tu sm tx, StrVal n s R b cnt tu sm tx ∧ (b = true → StrOk n s R cnt tu sm tx) := by
  obtain ⟨K, hK⟩ : ∃ K : Nat, K = 10000 := ⟨_, rfl⟩
  obtain ⟨R, b, cnt, tu, sm, tx, ⟨v1, v2, v3, v4, v5, v6, v7, v8, v9, va, vb, vc, vd⟩, hb⟩ := star_vals n s K hK
  rw [hK] at v1 v2 v3 v4 v5 v6 va vd
  refine ⟨R, b, cnt, tu, sm, tx, ⟨v1, v2, v3, v4, v5, v6, v7, v8, v9, va, vb, vc, vd⟩, fun q => ?_⟩
  obtain ⟨h, ⟨m, hA, hR⟩, hc, ht, hsm, htx⟩ := hb q
  have h' := h
  unfold isStar at h'
  have hgs : ((Int.gcd n s : Nat) : Int) ≤ s := Int.le_of_dvd (by omega) (Int.gcd_dvd_right ..)
  have hmul := around_mul n s m h hA
  subst hR hc ht htx
  refine ⟨h', ?_, by rw [strsL_len], by rw [strsL_len]; omega, fun i hi => ?_, ?_, strs_nodup n s m h hA, hsm⟩
  · rw [impl_parse _ (by have := textB_size n s; omega), text_read n s h]
  · rw [strsL_len] at hi
    rw [rd_strsL n s m _ i hi]
    obtain ⟨r1, r2, r3, r4⟩ := rows_facts n s m i h hA hi K hK
    rw [hK] at r4
    exact ⟨r1, r2, r3, fun k hk => ⟨(r4 k hk).1, (r4 k hk).2.1, (r4 k hk).2.2.1, (r4 k hk).2.2.2⟩⟩
  · rw [strs_flat_len, Nat.mul_comm, hmul]
    omega
theorem point_facts (n s x : Int) : ∃ L y nx, PtVal n s x L y nx := by
  obtain ⟨K, hK⟩ : ∃ K : Nat, K = 10000 := ⟨_, rfl⟩
  obtain ⟨L, y, nx, h1, h2, h3, h4, h5, h6⟩ := pt_facts n s x K hK
  rw [hK] at h2 h3 h6
  exact ⟨L, y, nx, h1, h2, h3, h4, h5, h6⟩
theorem between_facts (n s x y : Int) : ∃ r b, StepsVal n s x y r b := by
  obtain ⟨K, hK⟩ : ∃ K : Nat, K = 10000 := ⟨_, rfl⟩
  obtain ⟨⟨r, b⟩, h1, h2, _, h4⟩ := steps_val n s x y K hK
  rw [hK] at h1 h2
  refine ⟨r, b, h2, h1, fun q => ?_⟩
  obtain ⟨c1, c2, c3, c4⟩ := h4 q
  rw [(after_val n s x r).1]
  unfold afterV
  rw [if_pos ⟨c1, c2, by omega⟩, c4]
theorem stepTo_facts (p x y k : Int) : ∃ r b, ToVal p x y k r b := by
  obtain ⟨K, hK⟩ : ∃ K : Nat, K = 10000 := ⟨_, rfl⟩
  obtain ⟨r, b, h1, h2, h3, h4⟩ := to_facts p x y k K hK
  rw [hK] at h1 h2
  exact ⟨r, b, h1, h2, h3, h4⟩
theorem parse_facts (t : ByteArray) (ht : t.size ≤ 100) : ∃ p s b, ReadVal t p s b := by
  obtain ⟨K, hK⟩ : ∃ K : Nat, K = 10000 := ⟨_, rfl⟩
  obtain ⟨p, s, b, h1, h2, h3⟩ := read_facts t ht K (by omega)
  rw [hK] at h2
  exact ⟨p, s, b, h1, h2, h3⟩
theorem written_facts (p s : Int) (h0 : 3 ≤ p) (h1 : p ≤ 14) (h2 : 1 ≤ s) (h3 : s < p) : ∃ t : ByteArray, spec_srText.f 10000 p s = some t ∧ t.size ≤ 50 := by
  obtain ⟨K, hK⟩ : ∃ K : Nat, K = 10000 := ⟨_, rfl⟩
  have h := tx_facts p s h0 h1 h2 h3 K (by omega)
  rw [hK] at h
  exact h
end Go.Proofs.YthmhfagnenoibaaGreatDoor.X
end
