/- What the statement FnChordsCross needs, part 6 of 7: words, contracts and lemmas, cut to what is named. Written by a program of this work (wip/tools/gpack.py) out of its texts and the print's. -/
import Derived.Test.YtfdocedppachkaaGreatZFnChordsCross4
import Derived.Laws.Bits64b
import Derived.Lib.RowBridge
set_option linter.unusedVariables false
set_option linter.unusedSimpArgs false
set_option maxHeartbeats 80000000
set_option maxRecDepth 100000
section
namespace Go.Proofs.YtfdocedppachkaaGreat.X
open Go.RowKit Go.Proofs.YtfdocedppachkaaGreatW.PrintWords Go.Proofs.YtfdocedppachkaaGreatW.PrintLast Go.Proofs.YtfdocedppachkaaGreatW.PrintMore
attribute [local go_sem] max2_int min2_int max_two min_two max_three min_three max_four min_four
set_option linter.unusedVariables false
set_option linter.unusedSimpArgs false
def Cur (w0 w : World) (g N : Nat) : Prop := ∃ (A : Option Addr) (c : Nat) (l : List Int) (at_ sd : Int), w.heap[g]? = some (.cells #[.slice A l.length c, .int .i64 at_, .int .u64 sd] 74 (0, 0)) ∧ w0.heap.size ≤ g ∧ Kd.C (Kd.int .u8) w0 A l.length l ∧ (∀ i : Int, 0 ≤ i → i < l.length → 0 ≤ rd l i ∧ rd l i ≤ 255) ∧ 0 ≤ at_ ∧ at_ ≤ N
def DrawsInt (P : Int → Prop) (w0 w : World) (g N : Nat) (e : Ending) (w' : World) : Prop := ∃ r : Int, e = .returned (.int .i64 r) ∧ P r ∧ Cur w0 w' g N ∧ Below w0.heap.size w0 w' ∧ KeepBut w w' g none
theorem bits_and_255 (x : Int) (h0 : 0 ≤ x) (h1 : x < 18446744073709551616) : 0 ≤ Go.bits .and .u64 x 255 ∧ Go.bits .and .u64 x 255 ≤ 255 := by
 have h := bits_and_u64_nat x.toNat 255 (by omega) (by omega)
 rw [Int.toNat_of_nonneg h0] at h
 have h2 : ((255 : Nat) : Int) = 255 := rfl
 rw [h2] at h
 rw [h]
 have := Nat.and_le_right (n := x.toNat) (m := 255)
 exact ⟨Int.natCast_nonneg _, by omega⟩
theorem draw_small (y : Int) : 0 ≤ wrap64 (Go.bits .and .u64 (IntKind.u64.wrap y / 1099511627776) 255) ∧ wrap64 (Go.bits .and .u64 (IntKind.u64.wrap y / 1099511627776) 255) ≤ 255 := by
 have h : 0 ≤ IntKind.u64.wrap y ∧ IntKind.u64.wrap y < 18446744073709551616 := by rw [IntKind.wrap_u64]; omega
 have := bits_and_255 (IntKind.u64.wrap y / 1099511627776) (by omega) (by omega)
 unfold wrap64
 omega
theorem next_calls (w0 w : World) (g N : Nat) (hC : Cur w0 w g N) (hB : Below w0.heap.size w0 w) (hN : N ≤ 1000000) :
  Calls Tryz.prog 77 #[.pointer (some ⟨g, 0, none⟩)] w (DrawsInt (fun r => 0 ≤ r ∧ r ≤ 255) w0 w g (N + 1)) := by
 obtain ⟨A, c, l, at_, sd, hg, hge, hl, hr, h0, h1⟩ := hC
 have HG := Aside0.mk hg
 have HL := Aside0.mk hl
 have HB := Aside0.mk hB
 have HR := Aside0.mk hr
 have hc0 : w.cell? ⟨g, 0, none⟩ = some (.slice A l.length c) := (blk_cell hg 0).trans rfl
 have hc1 : w.cell? ⟨g, 1, none⟩ = some (.int .i64 at_) := (blk_cell hg 1).trans rfl
 have hc2 : w.cell? ⟨g, 2, none⟩ = some (.int .u64 sd) := (blk_cell hg 2).trans rfl
 have hf1 := blk_frozen hg 1
 have hf2 := blk_frozen hg 2
 clear hg hl hB hr
 have hmax := Kd.C_max HL.out
 go_enter Tryz.func77, Tryz.ntmps77
 go_wp2
 by_cases hlt : at_ < l.length
 ·have b0 : decide (at_ < (l.length : Int)) = true := decide_eq_true hlt
  have b1 : decide (at_ + 1 ≤ (l.length : Int)) = true := decide_eq_true (by omega)
  obtain ⟨ad, e, hx⟩ := Kd.at_int HL.out at_ h0 hlt
  subst e
  have hx2 := pw_cell_below HB.out hx
  obtain ⟨r0, r1⟩ := HR.out at_ h0 hlt
  generalize rd l at_ = x at hx hx2 r0 r1
  clear hx
  repeat (go_quiet (fail); try go_wp2)
  go_ret
  exact ⟨_, rfl, ⟨r0, r1⟩, ⟨_, c, l, at_ + 1, _, by (with_reducible repeat (first | refine blk_drewN ?_ _ | refine blk_drew ?_)); refine blk_put (cs := #[_, .int .i64 (at_ + 1), .int .u64 sd]) ?_ 2 _ rfl; refine blk_put (cs := #[_, .int .i64 at_, .int .u64 sd]) ?_ 1 _ rfl; (with_reducible repeat (first | refine blk_drewN ?_ _ | refine blk_drew ?_)); exact HG.out, hge, HL.out, HR.out, by omega, by omega⟩, by repeat (first | exact HB.out | apply pw_below_drewN | refine below_set ?_ hge), by repeat (first | exact KeepBut.refl w g none | apply keep_drewN | apply KeepBut.set_)⟩
 ·have b0 : decide (at_ < (l.length : Int)) = false := decide_eq_false hlt
  have b1 : decide (at_ + 1 ≤ (l.length : Int)) = false := decide_eq_false (by omega)
  repeat (go_quiet (fail); try go_wp2)
  go_ret
  exact ⟨_, rfl, draw_small _, ⟨_, c, l, at_ + 1, _, by (with_reducible repeat (first | refine blk_drewN ?_ _ | refine blk_drew ?_)); refine blk_put (cs := #[_, .int .i64 (at_ + 1), .int .u64 sd]) ?_ 2 _ rfl; refine blk_put (cs := #[_, .int .i64 at_, .int .u64 sd]) ?_ 1 _ rfl; (with_reducible repeat (first | refine blk_drewN ?_ _ | refine blk_drew ?_)); exact HG.out, hge, HL.out, HR.out, by omega, by omega⟩, by repeat (first | exact HB.out | apply pw_below_drewN | refine below_set ?_ hge), by repeat (first | exact KeepBut.refl w g none | apply keep_drewN | apply KeepBut.set_)⟩
theorem Cur.up {w0 w : World} {g N N' : Nat} (h : Cur w0 w g N) (hN : N ≤ N') : Cur w0 w g N' := by
 obtain ⟨A, c, l, at_, sd, hg, hge, hl, hr, h0, h1⟩ := h
 exact ⟨A, c, l, at_, sd, hg, hge, hl, hr, h0, by omega⟩
def Picked (n r : Int) : Prop := 0 ≤ r ∧ (1 ≤ n → r < n) ∧ (n ≤ 1 → r = 0)
theorem pick_calls (w0 w : World) (g N : Nat) (n : Int) (hC : Cur w0 w g N) (hB : Below w0.heap.size w0 w) (hN : N ≤ 900000) :
  Calls Tryz.prog 54 #[.pointer (some ⟨g, 0, none⟩), .int .i64 n] w (DrawsInt (Picked n) w0 w g (N + 2)) := by
 have HC := Aside0.mk hC
 have HB := Aside0.mk hB
 clear hC hB
 go_enter Tryz.func54, Tryz.ntmps54
 by_cases h1 : n ≤ 1
 ·have b0 : decide (n ≤ 1) = true := decide_eq_true h1
  go_wp2
  go_ret
  exact ⟨0, rfl, ⟨Int.le_refl _, fun h => by omega, fun _ => rfl⟩, HC.out.up (by omega), HB.out, KeepBut.refl w g none⟩
 ·have b0 : decide (n ≤ 1) = false := decide_eq_false h1
  go_wp2_with fail
  refine (next_calls w0 _ g N HC.out HB.out (by omega)).mono ?_
  rintro e w1 ⟨x, rfl, ⟨hx0, hx1⟩, hC1, hB1, hK1⟩
  have HC1 := Aside0.mk hC1
  have HB1 := Aside0.mk hB1
  have HK1 := Aside0.mk hK1
  clear hC1 hB1 hK1 HC HB
  have b1 : (n == 0) = false := beq_eq_false_iff_ne.2 (by omega)
  by_cases h2 : n > 200
  ·have b2 : decide (n > 200) = true := decide_eq_true h2
   go_wp2_with fail
   refine (next_calls w0 _ g (N + 1) HC1.out HB1.out (by omega)).mono ?_
   rintro e w2 ⟨y, rfl, ⟨hy0, hy1⟩, hC2, hB2, hK2⟩
   have HC2 := Aside0.mk hC2
   have HB2 := Aside0.mk hB2
   have HK2 := Aside0.mk (HK1.out.trans hK2 (.inl rfl))
   clear hC2 hB2 hK2 HC1 HB1 HK1
   go_wp2
   go_ret
   exact ⟨_, rfl, ⟨Int.emod_nonneg _ (by omega), fun _ => Int.emod_lt_of_pos _ (by omega), fun h => by omega⟩, HC2.out.up (by omega), HB2.out, HK2.out⟩
  ·have b2 : decide (n > 200) = false := decide_eq_false h2
   go_wp2
   go_ret
   exact ⟨_, rfl, ⟨Int.emod_nonneg _ (by omega), fun _ => Int.emod_lt_of_pos _ (by omega), fun h => by omega⟩, HC1.out.up (by omega), HB1.out, HK1.out⟩
theorem rd_mem' (l : List Int) (j : Int) (h0 : 0 ≤ j) (h : j < l.length) : rd l j ∈ l := by
 unfold rd
 rw [List.getD_eq_getElem?_getD, List.getElem?_eq_getElem (by omega), Option.getD_some]
 exact List.getElem_mem _
theorem among_calls (w0 w : World) (g N : Nat) (A : Option Addr) (l : List Int) (hC : Cur w0 w g N) (hB : Below w0.heap.size w0 w) (hN : N ≤ 900000) (hl : Kd.C (Kd.int .i64) w A l.length l) (hA : ∀ ad, A = some ad → ad.block ≠ g) (h0 : 0 < l.length) :
  Calls Tryz.prog 72 #[.pointer (some ⟨g, 0, none⟩), .slice A l.length l.length] w (DrawsInt (· ∈ l) w0 w g (N + 2)) := by
 have HC := Aside0.mk hC
 have HB := Aside0.mk hB
 have HL := Aside0.mk hl
 have HA := Aside0.mk hA
 have hmax := Kd.C_max hl
 clear hC hB hl hA
 go_enter Tryz.func72, Tryz.ntmps72
 go_wp2_with fail
 refine (pick_calls w0 _ g N l.length HC.out HB.out hN).mono ?_
 rintro e w1 ⟨x, rfl, ⟨hx0, hx1, _⟩, hC1, hB1, hK1⟩
 replace hx1 := hx1 (by omega)
 obtain ⟨ad, hAe, hx⟩ := Kd.at_int HL.out x hx0 hx1
 subst hAe
 have hm := rd_mem' l x hx0 hx1
 have hx2 := keep_cell hK1 hx (by rw [add_block]; exact HA.out ad rfl)
 have HC1 := Aside0.mk hC1
 have HB1 := Aside0.mk hB1
 have HK1 := Aside0.mk hK1
 generalize rd l x = y at hx hx2 hm
 have HM := Aside0.mk hm
 clear hC1 hB1 hK1 HC HB hx hm
 go_wp2
 go_ret
 exact ⟨_, rfl, HM.out, HC1.out, HB1.out, HK1.out⟩
theorem lit_C (W : World) (e : Nat) (l : List Int) (h1 : l.length ≤ 1000) : Kd.C (Kd.int .i64) (W.alloc (.cells (nums .i64 l).toArray e (0, 0))) (some ⟨W.heap.size, 0, none⟩) l.length l := by
 refine Kd.C_of_reads (d := (0 : Int)) ⟨rfl, by omega, fun _ => ⟨_, rfl, fun j hj => ?_⟩⟩
 rw [add_plain, blk_cell (blk_new W _) j, List.getD_eq_getElem?_getD, List.getElem?_eq_getElem hj, List.getElem?_toArray, nums, List.getElem?_map, List.getElem?_eq_getElem hj]
 rfl
theorem among_lit (w0 w : World) (g N e : Nat) (l : List Int) (hC : Cur w0 w g N) (hB : Below w0.heap.size w0 w) (hN : N ≤ 900000) (h0 : 0 < l.length) (h1 : l.length ≤ 1000) :
  Calls Tryz.prog 72 #[.pointer (some ⟨g, 0, none⟩), .slice (some ⟨w.heap.size, 0, none⟩) l.length l.length] (w.alloc (.cells (nums .i64 l).toArray e (0, 0))) (DrawsInt (· ∈ l) w0 w g (N + 2)) := by
 have hg : g < w.heap.size := by
  obtain ⟨A, c, l, at_, sd, hg, _⟩ := hC
  exact blk_lt hg
 have hC' : Cur w0 (w.alloc (.cells (nums .i64 l).toArray e (0, 0))) g N := by
  obtain ⟨A, c, l, at_, sd, hg, r⟩ := hC
  exact ⟨A, c, l, at_, sd, blk_alloc hg _, r⟩
 refine (among_calls w0 _ g N _ l hC' (below_alloc hB _) hN ?_ (fun ad h => by cases h; exact Nat.ne_of_gt hg) h0).mono ?_
 ·exact lit_C w e l h1
 ·rintro e w1 ⟨x, rfl, hm, hC1, hB1, hK1⟩
  exact ⟨x, rfl, hm, hC1, hB1, (keep_alloc (KeepBut.refl w g none) _).trans hK1 (.inl rfl)⟩
def DrawsStar (P : Int → Int → Prop) (w0 w : World) (g N : Nat) (e : Ending) (w' : World) : Prop := ∃ p s : Int, e = .returned (.agg #[.int .i64 p, .int .i64 s]) ∧ P p s ∧ Cur w0 w' g N ∧ Below w0.heap.size w0 w' ∧ KeepBut w w' g none
theorem blk_two {w : World} {g : Nat} {t : TypeId} {x y : Value} (h : w.heap[g]? = some (.cells #[x, y] t (0, 0))) (a b : Value) : ((w.setCell ⟨g, 0, none⟩ a).setCell ⟨g, 1, none⟩ b).heap[g]? = some (.cells #[a, b] t (0, 0)) := blk_put (blk_put h 0 a rfl) 1 b rfl
theorem Cur.lt {w0 w : World} {g N : Nat} (h : Cur w0 w g N) : g < w.heap.size := by
 obtain ⟨A, c, l, at_, sd, hg, _⟩ := h
 exact blk_lt hg
theorem Cur.alloc {w0 w : World} {g N : Nat} (h : Cur w0 w g N) (o : Obj) : Cur w0 (w.alloc o) g N := by
 obtain ⟨A, c, l, at_, sd, hg, r⟩ := h
 exact ⟨A, c, l, at_, sd, blk_alloc hg _, r⟩
theorem Cur.far {w0 w : World} {g N b j : Nat} (h : Cur w0 w g N) (hb : g ≠ b) (v : Value) : Cur w0 (w.setCell ⟨b, j, none⟩ v) g N := by
 obtain ⟨A, c, l, at_, sd, hg, r⟩ := h
 exact ⟨A, c, l, at_, sd, blk_far hg hb _, r⟩
theorem Cur.drewN {w0 w : World} {g N : Nat} (h : Cur w0 w g N) (n : Nat) : Cur w0 (w.drewN n) g N := h
theorem keep_box {w W : World} {g b : Nat} {o : Obj} (hk : KeepBut w W g none) (h : w.heap[b]? = some o) (hb : b ≠ g) : W.heap[b]? = some o := hk.blk h hb (by simp)
theorem sureStar_calls (w0 w : World) (g N : Nat) (hC : Cur w0 w g N) (hB : Below w0.heap.size w0 w) (hN : N ≤ 800000) :
  Calls Tryz.prog 73 #[.pointer (some ⟨g, 0, none⟩)] w (DrawsStar (fun p s => 3 ≤ p ∧ p ≤ 14 ∧ 1 ≤ s ∧ s < p) w0 w g (N + 4)) := by
 have HC := Aside0.mk hC
 have HB := Aside0.mk hB
 have hgb := Nat.ne_of_gt hC.lt
 have hsz := hB.size
 clear hC hB
 go_enter Tryz.func73, Tryz.ntmps73
 go_wp2_with fail
 refine (pick_calls w0 _ g N 12 (HC.out.alloc _) (below_alloc HB.out _) (by omega)).mono ?_
 rintro e w1 ⟨x, rfl, ⟨hx0, hx1, _⟩, hC1, hB1, hK1⟩
 replace hx1 := hx1 (by omega)
 have HC1 := Aside0.mk hC1
 have HB1 := Aside0.mk hB1
 have HK1 := Aside0.mk ((keep_alloc (KeepBut.refl w g none) _).trans hK1 (.inl rfl))
 have BK1 := Aside0.mk (keep_box hK1 (blk_new w _) hgb)
 clear hC1 hB1 hK1 HC HB
 go_wp2_with fail
 refine (pick_calls w0 _ g (N + 2) (3 + x - 1) HC1.out HB1.out (by omega)).mono ?_
 rintro e w2 ⟨y, rfl, ⟨hy0, hy1, _⟩, hC2, hB2, hK2⟩
 replace hy1 := hy1 (by omega)
 have HC2 := Aside0.mk hC2
 have HB2 := Aside0.mk hB2
 have HK2 := Aside0.mk (HK1.out.trans hK2 (.inl rfl))
 have BK2 := Aside0.mk (keep_box hK2 BK1.out hgb)
 clear hC2 hB2 hK2 HC1 HB1 HK1 BK1
 have hc0 : w2.cell? ⟨w.heap.size, 0, none⟩ = some (.int .i64 0) := (blk_cell BK2.out 0).trans rfl
 have hc1 : w2.cell? ⟨w.heap.size, 1, none⟩ = some (.int .i64 0) := (blk_cell BK2.out 1).trans rfl
 have hf0 := blk_frozen BK2.out 0
 have hf1 := blk_frozen BK2.out 1
 go_wp2
 refine bodyPost_ret (results_cell_row rfl _ _ w.heap.size 88 #[.int .i64 (3 + x), .int .i64 (1 + y)] (0, 0) _ rfl (blk_two BK2.out _ _) Tryz.underlying88 rfl (by kernel_rfl)) rfl ?_
 exact ⟨_, _, rfl, by omega, (HC2.out.far hgb.symm _).far hgb.symm _, below_set (below_set HB2.out (by have := HB2.out.size; omega)) (by omega), keep_far (keep_far HK2.out (Nat.le_refl _) _) (Nat.le_refl _) _⟩
def isBytes (l : List Int) : Prop := ∀ x ∈ l, 0 ≤ x ∧ x ≤ 255
theorem cur_new {w W : World} (hB : Below w.heap.size w W) {A : Option Addr} {c : Nat} {l : List Int} (hl : Kd.C (Kd.int .u8) w A l.length l) (hr : isBytes l) {g : Nat} (hs : W.heap.size = g) : Cur w (W.alloc (.cells #[.slice A l.length c, .int .i64 0, .int .u64 0] 74 (0, 0))) g 0 := by
 subst hs
 exact ⟨A, c, l, 0, 0, blk_new W _, hB.size, hl, fun i h0 h1 => hr _ (rd_mem' l i h0 h1), Int.le_refl _, Int.le_refl _⟩
theorem below_one (w : World) (o : Obj) : Below w.heap.size w (w.alloc o) := below_alloc (Below.refl _ _) o
theorem Cur.drew {w0 w : World} {g N : Nat} (h : Cur w0 w g N) : Cur w0 w.drew g N := h
theorem keep_below {w W w1 : World} {g : Nat} (h : KeepBut w W g none) (hb : Below W.heap.size W w1) : KeepBut w w1 g none := h.trans (KeepBut.of_below hb g none) (.inl rfl)
theorem Cur.below {w0 w w1 : World} {g N : Nat} (h : Cur w0 w g N) (hb : Below w.heap.size w w1) : Cur w0 w1 g N := by
 obtain ⟨A, c, l, at_, sd, hg, r⟩ := h
 exact ⟨A, c, l, at_, sd, blk_below hg hb, r⟩
end Go.Proofs.YtfdocedppachkaaGreat.X
end
section
namespace Go.Proofs.YtfdocedppachkaaGreat.Q
open Go.RowKit Go.Proofs.YtfdocedppachkaaGreat.X Go.Proofs.YtfdocedppachkaaGreatW.PrintWords Go.Proofs.YtfdocedppachkaaGreatW.PrintLast Go.Proofs.YtfdocedppachkaaGreatW.PrintMore
set_option linter.unusedVariables false
set_option linter.unusedSimpArgs false
theorem wrap64_id {x : Int} (h0 : -9223372036854775808 ≤ x) (h1 : x ≤ 9223372036854775807) : wrap64 x = x := by unfold wrap64; omega
theorem wrap_step {x : Int} (h0 : 0 ≤ x) (h1 : x ≤ 4611686018427387904) : wrap64 (x + 1) = x + 1 := by unfold wrap64; omega
def cLt (x y : S44) : Bool := decide (x.f0 < y.f0 ∨ (x.f0 = y.f0 ∧ x.f1 < y.f1))
theorem cLt_iff (x y : S44) : cLt x y = true ↔ (x.f0 < y.f0 ∨ (x.f0 = y.f0 ∧ x.f1 < y.f1)) := by unfold cLt; exact decide_eq_true_iff
theorem chord_ext {x y : S44} (h0 : x.f0 = y.f0) (h1 : x.f1 = y.f1) : x = y := by cases x; cases y; simp_all
def Strict (l : List S44) : Prop := l.Pairwise fun x y => cLt x y = true
theorem strict_unique : ∀ (l m : List S44), Strict l → Strict m → (∀ x, x ∈ l ↔ x ∈ m) → l = m
 | [], [], _, _, _ => rfl
 | [], y :: m, _, _, h => by have := (h y).2 (by simp); simp at this
 | x :: l, [], _, _, h => by have := (h x).1 (by simp); simp at this
 | x :: l, y :: m, hl, hm, h => by
  unfold Strict at hl hm
  rw [List.pairwise_cons] at hl hm
  have e : x = y := by
   have h1 := (h x).1 (by simp)
   have h2 := (h y).2 (by simp)
   rcases List.mem_cons.1 h1 with h1 | h1
   ·exact h1
   ·rcases List.mem_cons.1 h2 with h2 | h2
    ·exact h2.symm
    ·have a := hl.1 y h2
     have b := hm.1 x h1
     rw [cLt_iff] at a b
     omega
  subst e
  rw [strict_unique l m hl.2 hm.2 (fun z => by
   have hz := h z
   simp only [List.mem_cons] at hz
   constructor
   ·intro hzl
    rcases hz.1 (Or.inr hzl) with e | e
    ·subst e; have := hl.1 z hzl; rw [cLt_iff] at this; omega
    ·exact e
   ·intro hzm
    rcases hz.2 (Or.inr hzm) with e | e
    ·subst e; have := hm.1 z hzm; rw [cLt_iff] at this; omega
    ·exact e)]
def insL (c : S44) : List S44 → List S44
 | [] => [c]
 | x :: l => if cLt x c = true then x :: insL c l else if x.f0 = c.f0 ∧ x.f1 = c.f1 then x :: l else c :: x :: l
theorem insL_mem (c : S44) : ∀ (l : List S44) (x : S44), x ∈ insL c l ↔ x = c ∨ x ∈ l
 | [], x => by simp [insL]
 | y :: l, x => by
  unfold insL
  split
  ·rw [List.mem_cons, insL_mem c l x, List.mem_cons]; constructor
   ·rintro (h | h | h) <;> simp [h]
   ·rintro (h | h | h) <;> simp [h]
  ·split
   ·rename_i e; have e := chord_ext e.1 e.2; subst e; simp
   ·simp
theorem insL_strict (c : S44) : ∀ (l : List S44), Strict l → Strict (insL c l)
 | [], _ => by simp [insL, Strict]
 | y :: l, h => by
  unfold Strict at h
  rw [List.pairwise_cons] at h
  unfold insL
  split
  ·rename_i hy
   unfold Strict
   rw [List.pairwise_cons]
   refine ⟨fun z hz => ?_, insL_strict c l h.2⟩
   rcases (insL_mem c l z).1 hz with e | e
   ·subst e; exact hy
   ·exact h.1 z e
  ·split
   ·unfold Strict; rw [List.pairwise_cons]; exact h
   ·rename_i h1 h2
    have h3 : ¬ (y.f0 = c.f0 ∧ y.f1 = c.f1) := h2
    have h4 : cLt c y = true := by rw [cLt_iff] at h1 ⊢; omega
    unfold Strict
    rw [List.pairwise_cons, List.pairwise_cons]
    refine ⟨fun z hz => ?_, h⟩
    rcases List.mem_cons.1 hz with e | e
    ·subst e; exact h4
    ·have h5 := h.1 z e
     rw [cLt_iff] at h4 h5 ⊢
     omega
theorem insL_len (c : S44) : ∀ (l : List S44), (insL c l).length ≤ l.length + 1
 | [] => by simp [insL]
 | y :: l => by
  unfold insL
  have := insL_len c l
  split
  ·simp; omega
  ·split <;> simp
def putAll (acc : List S44) : List S44 → List S44
 | [] => acc
 | c :: l => putAll (insL c acc) l
theorem putAll_spec : ∀ (l acc : List S44), Strict acc → Strict (putAll acc l) ∧ ∀ x, x ∈ putAll acc l ↔ x ∈ acc ∨ x ∈ l
 | [], acc, h => ⟨h, by simp [putAll]⟩
 | c :: l, acc, h => by
  obtain ⟨h1, h2⟩ := putAll_spec l (insL c acc) (insL_strict c acc h)
  refine ⟨h1, fun x => ?_⟩
  unfold putAll
  rw [h2, insL_mem, List.mem_cons]
  constructor
  ·rintro ((h | h) | h) <;> simp [h]
  ·rintro (h | h | h) <;> simp [h]
theorem rdC_get (l : List S44) (i : Int) (h0 : 0 ≤ i) (h1 : i < l.length) : rd_T44 l i = l[i.toNat]'(by omega) := by
 unfold rd_T44
 have h : i.toNat < l.length := by omega
 simp [h]
theorem srLess_eq (a b c d : Int) : spec_srLess.f a b c d = some (cLt ⟨a, b⟩ ⟨c, d⟩) := by
 unfold spec_srLess.f cLt
 split
 ·rename_i h; exact congrArg some (decide_eq_true (Or.inl h)).symm
 ·split
  ·rename_i h1 h2
   refine congrArg some (decide_eq_decide.2 ?_)
   simp only
   omega
  ·rename_i h1 h2
   refine congrArg some (decide_eq_false ?_).symm
   simp only
   omega
theorem rdC_append (l m : List S44) (x : S44) : rd_T44 (l ++ x :: m) (l.length : Int) = x := by
 rw [rdC_get _ _ (by omega) (by simp; omega)]
 simp
def mkC (a b : Int) : S44 := ⟨mn a b, mx a b⟩
def Proper (n : Int) (c : S44) : Prop := 0 ≤ c.f0 ∧ c.f0 < c.f1 ∧ c.f1 < n
theorem srPut_loop (c : S44) (m : List S44) : ∀ (k : Nat) (pre : List S44), pre.length + m.length ≤ 1000 → m.length < k →
  spec_srPut.l0 k (pre ++ m) pre.length c.f0 c.f1 = some (pre ++ insL c m) := by
 induction m with
 | nil =>
  intro k pre hl hk
  obtain ⟨k, rfl⟩ : ∃ t, k = t + 1 := ⟨k - 1, by omega⟩
  simp only [List.length_nil, Nat.add_zero] at hl
  simp only [spec_srPut.l0, List.append_nil, insL]
  rw [if_neg (by omega)]
  simp only [Option.bind_some, List.nil_append, Int.toNat_natCast, List.take_length, List.drop_length, List.append_nil, List.length_nil, List.length_append, List.length_cons]
  rw [if_pos (by omega), if_pos (by omega), if_pos (by omega), if_pos (by omega), if_pos (by omega)]
 | cons x m ih =>
  intro k pre hl hk
  obtain ⟨k, rfl⟩ : ∃ t, k = t + 1 := ⟨k - 1, by omega⟩
  simp only [List.length_cons] at hl hk
  simp only [spec_srPut.l0, insL]
  have hlen : ((pre ++ x :: m).length : Int) = pre.length + m.length + 1 := by simp; omega
  rw [if_pos (by omega), if_pos (by omega)]
  have hrd : rd_T44 (pre ++ x :: m) pre.length = x := by
   rw [rdC_get _ _ (by omega) (by omega)]
   simp
  rw [hrd, srLess_eq]
  simp only [Option.bind_some]
  by_cases h : cLt x c = true
  ·rw [if_pos h, if_pos h, wrap64_id (by omega) (by omega)]
   have := ih k (pre ++ [x]) (by simp; omega) (by omega)
   simp only [List.append_assoc, List.cons_append, List.nil_append, List.length_append, List.length_cons, List.length_nil] at this
   rw [show (pre.length : Int) + 1 = ((pre.length + (0 + 1) : Nat) : Int) by omega]
   exact this
  ·rw [if_neg h, if_neg h]
   by_cases e : x.f0 = c.f0 ∧ x.f1 = c.f1
   ·rw [if_pos (by simpa using e), if_pos e]
   ·rw [if_neg (by simpa using e), if_neg e, if_pos (by omega)]
    simp only [Int.toNat_natCast, List.take_left, List.drop_left, List.nil_append, List.length_nil, List.length_append, List.length_cons]
    rw [if_pos (by omega), if_pos (by omega), if_pos (by omega)]
    simp
theorem srPut_eq (c : S44) (l : List S44) (k : Nat) (hl : l.length ≤ 1000) (hk : l.length < k) : spec_srPut.f k l c.f0 c.f1 = some (insL c l) := by
 unfold spec_srPut.f
 simpa using srPut_loop c l k [] (by simpa using hl) hk
theorem srChord_eq (a b : Int) : spec_srChord.f a b = some ((mkC a b).f0, (mkC a b).f1) := by
 unfold spec_srChord.f spec_l1Least.f spec_l1Most.f mkC mn mx
 by_cases h : a < b
 ·rw [if_pos h, if_neg (by omega)]
  simp [h]
  try omega
 ·rw [if_neg h]
  by_cases h2 : a > b
  ·rw [if_pos h2]; simp [h]; try omega
  ·rw [if_neg h2]; simp [h]; try omega
theorem implChord_eq (a b : Int) : impl_chord.f a b = some ((mkC a b).f0, (mkC a b).f1) := rfl
end Go.Proofs.YtfdocedppachkaaGreat.Q
end
section
namespace Go.Proofs.YtfdocedppachkaaGreat.X
open Go.RowKit Go.Proofs.YtfdocedppachkaaGreatW.PrintWords Go.Proofs.YtfdocedppachkaaGreatW.PrintLast Go.Proofs.YtfdocedppachkaaGreatW.PrintMore
attribute [local go_sem] max2_int min2_int max_two min_two max_three min_three max_four min_four
set_option linter.unusedVariables false
set_option linter.unusedSimpArgs false
open Go.Proofs.YtfdocedppachkaaGreat.Q (mkC insL insL_len srChord_eq srPut_eq)
def DrawsSet (P : Int → List S44 → Prop) (w0 w : World) (g N : Nat) (e : Ending) (w' : World) : Prop := ∃ (p : Int) (v : Value) (l : List S44), e = .returned (.tuple #[.int .i64 p, v]) ∧ P p l ∧ Cur w0 w' g N ∧ Below w0.heap.size w0 w' ∧ KeepBut w w' g none ∧ Kd.R k44 44 w' w0.heap.size (fun k => k ≠ g ∧ w.heap.size ≤ k) v l
theorem Cur.kept {w0 w w1 : World} {g N : Nat} {S : Nat → Prop} (h : Cur w0 w g N) (k : Kept w w1 S) (hS : ¬ S g) : Cur w0 w1 g N := by
 obtain ⟨A, c, l, at_, sd, hg, r⟩ := h
 exact ⟨A, c, l, at_, sd, (k.2 g (blk_lt hg) hS).trans hg, r⟩
theorem star_fin : ∀ p ∈ List.range 15, ∀ s ∈ List.range p, 3 ≤ p → 1 ≤ s → ((spec_srChords.f 40 (p : Int) (s : Int)).any fun l => decide (l.length ≤ 60)) = true := by decide +kernel
def planeL (q : Nat) : List Int := (spec_cdPlane.f 40 (4 + 2 * (q : Int))).getD []
theorem plane_fin : ∀ q ∈ List.range 5, spec_cdPlane.f 40 (4 + 2 * (q : Int)) = some (planeL q) ∧ (planeL q).length = 5 + 2 * q ∧ 1 ≤ rd (planeL q) (4 + 2 * (q : Int)) ∧ ∀ r ∈ List.range (rd (planeL q) (4 + 2 * (q : Int))).toNat, ((spec_cdOfRank.f 40 0 (4 + 2 * (q : Int)) (r : Int) (planeL q)).any fun l => decide (l.length ≤ 60)) = true := by decide +kernel
theorem star_set (p s : Int) (h0 : 3 ≤ p) (h1 : p ≤ 14) (h2 : 1 ≤ s) (h3 : s < p) : ∃ l, spec_srChords.f 40 p s = some l ∧ l.length ≤ 60 := by
 have h := star_fin p.toNat (List.mem_range.2 (by omega)) s.toNat (List.mem_range.2 (by omega)) (by omega) (by omega)
 rw [Int.toNat_of_nonneg (by omega), Int.toNat_of_nonneg (by omega)] at h
 obtain ⟨l, hl⟩ : ∃ l, spec_srChords.f 40 p s = some l := by
  cases hc : spec_srChords.f 40 p s with
  | none => rw [hc] at h; simp at h
  | some l => exact ⟨l, rfl⟩
 rw [hl] at h
 exact ⟨l, hl, by simpa using h⟩
theorem plane_set (q : Int) (h0 : 0 ≤ q) (h1 : q < 5) : ∃ cs, spec_cdPlane.f 40 (4 + 2 * q) = some cs ∧ (cs.length : Int) = 5 + 2 * q ∧ 1 ≤ rd cs (4 + 2 * q) ∧ ∀ r : Int, 0 ≤ r → r < rd cs (4 + 2 * q) → ∃ l, spec_cdOfRank.f 40 0 (4 + 2 * q) r cs = some l ∧ l.length ≤ 60 := by
 obtain ⟨a, b, c, d⟩ := plane_fin q.toNat (List.mem_range.2 (by omega))
 rw [Int.toNat_of_nonneg h0] at a c d
 refine ⟨_, a, by omega, c, fun r h0 h1 => ?_⟩
 have h := d r.toNat (List.mem_range.2 (by omega))
 rw [Int.toNat_of_nonneg h0] at h
 generalize planeL q.toNat = cs at h ⊢
 obtain ⟨l, hl⟩ : ∃ l, spec_cdOfRank.f 40 0 (4 + 2 * q) r cs = some l := by
  cases hc : spec_cdOfRank.f 40 0 (4 + 2 * q) r cs with
  | none => rw [hc] at h; simp at h
  | some l => exact ⟨l, rfl⟩
 rw [hl] at h
 exact ⟨l, hl, by simpa using h⟩
theorem Cur.grown {w0 w w1 : World} {g N : Nat} {row : Option Nat} (h : Cur w0 w g N) (k : w.grownBy w1 row) (hr : row ≠ some g) : Cur w0 w1 g N := by
 obtain ⟨A, c, l, at_, sd, hg, r⟩ := h
 exact ⟨A, c, l, at_, sd, (k.block g (blk_lt hg) (fun e => hr e.symm)).trans hg, r⟩
theorem keep_grown {w W w1 : World} {g : Nat} {row : Option Nat} (h : KeepBut w W g none) (k : W.grownBy w1 row) (hr : ∀ b, row = some b → w.heap.size ≤ b) : KeepBut w w1 g none :=
 h.trans (KeepBut.of_grown k g) (by cases row with
  | none => exact .inl rfl
  | some b => exact .inr ⟨b, rfl, hr b rfl⟩)
theorem set_made {w0 w W W1 : World} {g : Nat} {v : Value} {l : List S44} (h : Kd.R k44 44 W1 W.heap.size (fun _ => True) v l) (hk : KeepBut w W g none) (hs : w0.heap.size ≤ W.heap.size) (hg : g < w.heap.size) : Kd.R k44 44 W1 w0.heap.size (fun k => k ≠ g ∧ w.heap.size ≤ k) v l := by
 have := hk.1
 exact Kd.R_lower (Kd.R_mono (Kd.R_bound h) (fun k hk => ⟨by omega, by omega⟩)) hs
theorem sureChords_calls (w0 w : World) (g N : Nat) (most : Nat) (hm : most ≤ 60) (hC : Cur w0 w g N) (hB : Below w0.heap.size w0 w) (hN : N ≤ 800000) :
  Calls Tryz.prog 71 #[.pointer (some ⟨g, 0, none⟩), .int .i64 (most : Int)] w (DrawsSet (fun p l => 3 ≤ p ∧ p ≤ 12 ∧ l.length ≤ most) w0 w g (N + 4 + 4 * most)) := by
 have HC := Aside0.mk hC
 have HB := Aside0.mk hB
 have hg := hC.lt
 clear hC hB
 go_enter Tryz.func71, Tryz.ntmps71
 go_wp2_with fail
 refine (pick_calls w0 _ g N 10 HC.out HB.out (by omega)).mono ?_
 rintro e w1 ⟨x, rfl, ⟨hx0, hx1, _⟩, hC1, hB1, hK1⟩
 replace hx1 := hx1 (by omega)
 have HC1 := Aside0.mk hC1
 have HB1 := Aside0.mk hB1
 have HK1 := Aside0.mk hK1
 clear hC1 hB1 hK1 HC HB
 go_wp2_with fail
 refine (pick_calls w0 _ g (N + 2) ((most : Int) + 1) HC1.out HB1.out (by omega)).mono ?_
 rintro e w2 ⟨y, rfl, ⟨hy0, hy1, _⟩, hC2, hB2, hK2⟩
 replace hy1 := hy1 (by omega)
 have HC2 := Aside0.mk hC2
 have HB2 := Aside0.mk hB2
 have HK2 := Aside0.mk (HK1.out.trans hK2 (.inl rfl))
 clear hC2 hB2 hK2 HC1 HB1 HK1
 go_wp2_with fail
 go_loopg [7, 8] most (fun gg v7 v8 wr => ∃ (l : List S44) (m : Nat), v8 = .int .i64 (m : Int) ∧ m ≤ gg ∧ l.length + m ≤ most ∧ Aside0 (Kd.R k44 44 wr w0.heap.size (fun k => k ≠ g ∧ w.heap.size ≤ k) v7 l) ∧ Aside0 (Cur w0 wr g (N + 4 + 4 * (most - m))) ∧ Aside0 (Below w0.heap.size w0 wr) ∧ Aside0 (KeepBut w wr g none))
 case atStart => exact ⟨[], y.toNat, by rw [Int.toNat_of_nonneg (by omega)], by omega, by simp only [List.length_nil]; omega, ⟨Kd.R_nil _ _ _ _ _⟩, ⟨HC2.out.up (by omega)⟩, HB2, HK2⟩
 case round =>
  clear HC2 HB2 HK2
  obtain ⟨l, m, rfl, hmg, hlm, HR, HC, HB, HK⟩ := hrel
  by_cases hm : 0 < m
  ·obtain ⟨m, rfl⟩ : ∃ j, m = j + 1 := ⟨m - 1, by omega⟩
   go_wp2_with fail
   refine (pick_calls w0 _ g (N + 4 + 4 * (most - (m + 1))) (3 + x) HC.out HB.out (by omega)).mono ?_
   rintro e w3 ⟨a, rfl, ⟨ha0, ha1, _⟩, hC1, hB1, hK1⟩
   replace ha1 := ha1 (by omega)
   have HC1 := Aside0.mk hC1
   have HB1 := Aside0.mk hB1
   have HR1 := Aside0.mk (Kd.R_keep HR.out hK1 (fun _ h => h.1))
   have HK1 := Aside0.mk (HK.out.trans hK1 (.inl rfl))
   clear hC1 hB1 hK1 HC HB HK HR
   go_wp2_with fail
   refine (pick_calls w0 _ g (N + 4 + 4 * (most - (m + 1)) + 2) (3 + x - 1) HC1.out HB1.out (by omega)).mono ?_
   rintro e w4 ⟨z, rfl, ⟨hz0, hz1, _⟩, hC2, hB2, hK2⟩
   replace hz1 := hz1 (by omega)
   have HC2 := Aside0.mk hC2
   have HB2 := Aside0.mk hB2
   have HR2 := Aside0.mk (Kd.R_keep HR1.out hK2 (fun _ h => h.1))
   have HK2 := Aside0.mk (HK1.out.trans hK2 (.inl rfl))
   clear hC2 hB2 hK2 HC1 HB1 HK1 HR1
   have b0 : ((3 + x : Int) == 0) = false := beq_eq_false_iff_ne.2 (by omega)
   go_wp2_with fail
   refine (spec_srChord.calls _ _ (mkC _ _).f0 (mkC _ _).f1 _ (srChord_eq _ _)).mono ?_
   rintro e w5 ⟨rfl, hb⟩
   have HC3 := Aside0.mk (HC2.out.below hb)
   have HB3 := Aside0.mk (below_step HB2.out hb)
   have HR3 := Aside0.mk (Kd.R_below HR2.out hb)
   have HK3 := Aside0.mk (keep_below HK2.out hb)
   clear hb HC2 HB2 HK2 HR2
   generalize mkC _ _ = c
   go_wp2_with fail
   refine (spec_srPut.calls 1000 (fun k => k ≠ g ∧ w.heap.size ≤ k) _ l c.f0 c.f1 (insL c l) w0 _ HB3.out HR3.out (srPut_eq c l 1000 (by omega) (by omega))).mono ?_
   rintro e w6 ⟨v, rfl, hR, hB, hk⟩
   have hil := insL_len c l
   have HC4 := Aside0.mk (HC3.out.kept hk (fun h => h.1 rfl))
   have HB4 := Aside0.mk hB
   have hsz := HK3.out.1
   have HR4 := Aside0.mk (Kd.R_mono hR (fun k h => h.elim id (fun h => ⟨by omega, by omega⟩)))
   have HK4 := Aside0.mk (Kept.keep HK3.out hk (fun k h => h.2))
   clear hR hB hk HC3 HB3 HR3 HK3
   go_wp2
   go_roundg m
   case measure => omega
   case rel => exact ⟨insL c l, m, by go_num, by omega, by omega, HR4, ⟨HC4.out.up (by omega)⟩, HB4, HK4⟩
  ·go_wp2
   go_ret2
   exact ⟨_, _, l, rfl, ⟨by omega, by omega, by omega⟩, HC.out.up (by omega), HB.out, HK.out, HR.out⟩
def setN1 : List Int := [-1, 2, 3, 60, 61, 4611686018427387904]
def setN2 : List Int := [-1, 0, 2, 59, 4611686018427387904]
def setN3 : List Int := [-1, 0, 3, 59, 60, 4611686018427387904]
theorem chords_calls (w0 w : World) (g N : Nat) (hC : Cur w0 w g N) (hB : Below w0.heap.size w0 w) (hN : N ≤ 700000) :
  Calls Tryz.prog 53 #[.pointer (some ⟨g, 0, none⟩)] w (DrawsSet (fun _ l => l.length ≤ 60) w0 w g (N + 200)) := by
 have HC := Aside0.mk hC
 have HB := Aside0.mk hB
 have hg := hC.lt
 clear hC hB
 go_enter Tryz.func53, Tryz.ntmps53
 go_wp2_with fail
 refine (sureChords_calls w0 _ g N 9 (by decide) HC.out HB.out (by omega)).mono ?_
 rintro e w1 ⟨p, v, l, rfl, ⟨hp0, hp1, hl⟩, hC1, hB1, hK1, hR1⟩
 have HC1 := Aside0.mk hC1
 have HB1 := Aside0.mk hB1
 have HK1 := Aside0.mk hK1
 have HR1 := Aside0.mk hR1
 clear hC1 hB1 hK1 hR1 HC HB
 go_wp2_with fail
 refine (pick_calls w0 _ g (N + 4 + 4 * 9) 18 HC1.out HB1.out (by omega)).mono ?_
 rintro e w2 ⟨q, rfl, ⟨hq0, hq1, _⟩, hC2, hB2, hK2⟩
 replace hq1 := hq1 (by omega)
 have HC2 := Aside0.mk hC2
 have HB2 := Aside0.mk hB2
 have HR2 := Aside0.mk (Kd.R_keep HR1.out hK2 (fun _ h => h.1))
 have HK2 := Aside0.mk (HK1.out.trans hK2 (.inl rfl))
 clear hC2 hB2 hK2 HC1 HB1 HK1 HR1
 by_cases q0 : q = 0
 ·have b0 : (q == 0) = true := beq_iff_eq.2 q0
  clear q0
  go_wp2_with fail
  refine (among_lit w0 w2 g (N + 4 + 4 * 9 + 2) 3 setN1 HC2.out HB2.out (by omega) (by decide) (by decide)).mono ?_
  rintro e w3 ⟨x, rfl, hx, hC3, hB3, hK3⟩
  have HC3 := Aside0.mk hC3
  have HB3 := Aside0.mk hB3
  have HR3 := Aside0.mk (Kd.R_keep HR2.out hK3 (fun _ h => h.1))
  have HK3 := Aside0.mk (HK2.out.trans hK3 (.inl rfl))
  clear hC3 hB3 hK3 hx HC2 HB2 HK2 HR2
  go_wp2
  go_ret2
  exact ⟨_, _, l, rfl, by omega, HC3.out.up (by omega), HB3.out, HK3.out, HR3.out⟩
 ·have b0 : (q == 0) = false := beq_eq_false_iff_ne.2 q0
  by_cases q1 : q = 1
  ·have b1 : (q == 1) = true := beq_iff_eq.2 q1
   clear q0 q1
   go_wp2_with fail
   refine (among_lit w0 w2 g (N + 4 + 4 * 9 + 2) 3 setN2 HC2.out HB2.out (by omega) (by decide) (by decide)).mono ?_
   rintro e w3 ⟨x, rfl, hx, hC3, hB3, hK3⟩
   have HC3 := Aside0.mk hC3
   have HB3 := Aside0.mk hB3
   have HR3 := Aside0.mk (Kd.R_keep HR2.out hK3 (fun _ h => h.1))
   have HK3 := Aside0.mk (HK2.out.trans hK3 (.inl rfl))
   clear hC3 hB3 hK3 hx HC2 HB2 HK2 HR2
   go_wp2_with fail
   refine (among_lit w0 w3 g (N + 4 + 4 * 9 + 4) 3 setN3 HC3.out HB3.out (by omega) (by decide) (by decide)).mono ?_
   rintro e w4 ⟨y, rfl, hy, hC4, hB4, hK4⟩
   have HC4 := Aside0.mk hC4
   have HB4 := Aside0.mk hB4
   have HR4 := Aside0.mk (Kd.R_keep HR3.out hK4 (fun _ h => h.1))
   have HK4 := Aside0.mk (HK3.out.trans hK4 (.inl rfl))
   clear hC4 hB4 hK4 hy HC3 HB3 HK3 HR3
   go_wp2_with ((with_reducible refine gate_builtin (b := .append) (xs := #[.tmp 22, .tmp 30]) rfl ?_); at_builtin; refine Kd.R_append k44 (w0 := w0) w0.heap.size rfl (.tmp 22) (.tmp 30) 24 44 (.agg #[(.int .i64 0), (.int .i64 0)]) 16 rfl Tryz.underlying24 info44 rfl (by decide) (by omega) v l (⟨x, y⟩ : S44) [.int .i64 x, .int .i64 y] (fun k => k ≠ g ∧ w.heap.size ≤ k) (fun _ => False) rfl (by go_simp) ?aP (fun _ hk => hk.elim) ?aF HR4.out HB4.out ?aS ?aL ?_; (case aP => exact k44_mkM _ _ _ (⟨x, y⟩ : S44)); (case aF => exact fun k hk => by have := HK4.out.1; exact ⟨by omega, by omega⟩); (case aS => exact below_size HB4.out); (case aL => omega); intro v5 w5 hR hB hG hA; have HR5 := Aside0.mk hR; have HB5 := Aside0.mk hB; have HC5 := Aside0.mk (HC4.out.grown hG (fun e => (HR4.out.1 _ e).1 rfl)); have HK5 := Aside0.mk (keep_grown HK4.out hG (fun b e => (HR4.out.1 _ e).2)); clear hR hB hG hA HR4 HB4 HC4 HK4)
   go_ret2
   exact ⟨_, _, _, rfl, by simp only [List.length_append, List.length_cons, List.length_nil]; omega, HC5.out.up (by omega), HB5.out, HK5.out, HR5.out⟩
  ·have b1 : (q == 1) = false := beq_eq_false_iff_ne.2 q1
   by_cases q2 : q = 2
   ·have b2 : (q == 2) = true := beq_iff_eq.2 q2
    clear q0 q1 q2
    go_wp2_with fail
    go_loopg [5, 6] 41 (fun gg v5 v6 wr => ∃ (m : List S44) (i : Nat), v6 = .int .i64 (i : Int) ∧ i ≤ 41 ∧ 41 - i ≤ gg ∧ m.length ≤ i ∧ Aside0 (Kd.R k44 44 wr w0.heap.size (fun k => k ≠ g ∧ w.heap.size ≤ k) v5 m) ∧ Aside0 (Cur w0 wr g (N + 4 + 4 * 9 + 2 + 2 * i)) ∧ Aside0 (Below w0.heap.size w0 wr) ∧ Aside0 (KeepBut w wr g none))
    case atStart => exact ⟨[], 0, rfl, by omega, by omega, by simp, ⟨Kd.R_nil _ _ _ _ _⟩, HC2, HB2, HK2⟩
    case round =>
     clear HC2 HB2 HK2 HR2
     obtain ⟨m, i, rfl, hi, hig, hmi, HR, HC, HB, HK⟩ := hrel
     go_wp2_with fail
     refine (pick_calls w0 _ g (N + 4 + 4 * 9 + 2 + 2 * i) 2 HC.out HB.out (by omega)).mono ?_
     rintro e w3 ⟨z, rfl, ⟨hz0, hz1, _⟩, hC1, hB1, hK1⟩
     replace hz1 := hz1 (by omega)
     have HC1 := Aside0.mk hC1
     have HB1 := Aside0.mk hB1
     have HR1 := Aside0.mk (Kd.R_keep HR.out hK1 (fun _ h => h.1))
     have HK1 := Aside0.mk (HK.out.trans hK1 (.inl rfl))
     clear hC1 hB1 hK1 HC HB HK HR
     by_cases hz : (i : Int) < 40 + z
     ·have bz : decide ((i : Int) < 40 + z) = true := decide_eq_true hz
      go_wp2_with fail
      refine (spec_srChord.calls _ _ (mkC _ _).f0 (mkC _ _).f1 _ (srChord_eq _ _)).mono ?_
      rintro e w5 ⟨rfl, hb⟩
      have HC3 := Aside0.mk (HC1.out.below hb)
      have HB3 := Aside0.mk (below_step HB1.out hb)
      have HR3 := Aside0.mk (Kd.R_below HR1.out hb)
      have HK3 := Aside0.mk (keep_below HK1.out hb)
      clear hb HC1 HB1 HK1 HR1
      generalize mkC _ _ = c
      go_wp2_with fail
      refine (spec_srPut.calls 1000 (fun k => k ≠ g ∧ w.heap.size ≤ k) _ m c.f0 c.f1 (insL c m) w0 _ HB3.out HR3.out (srPut_eq c m 1000 (by omega) (by omega))).mono ?_
      rintro e w6 ⟨v, rfl, hR, hB, hk⟩
      have hil := insL_len c m
      have HC4 := Aside0.mk (HC3.out.kept hk (fun h => h.1 rfl))
      have HB4 := Aside0.mk hB
      have hsz := HK3.out.1
      have HR4 := Aside0.mk (Kd.R_mono hR (fun k h => h.elim id (fun h => ⟨by omega, by omega⟩)))
      have HK4 := Aside0.mk (Kept.keep HK3.out hk (fun k h => h.2))
      clear hR hB hk HC3 HB3 HR3 HK3
      go_wp2
      go_roundg (41 - (i + 1))
      case measure => omega
      case rel => exact ⟨insL c m, i + 1, by go_num, by omega, by omega, by omega, HR4, ⟨HC4.out.up (by omega)⟩, HB4, HK4⟩
     ·have bz : decide ((i : Int) < 40 + z) = false := decide_eq_false hz
      go_wp2
      go_ret2
      exact ⟨_, _, m, rfl, by omega, HC1.out.up (by omega), HB1.out, HK1.out, HR1.out⟩
   ·have b2 : (q == 2) = false := beq_eq_false_iff_ne.2 q2
    by_cases q3 : q = 3
    ·have b3 : (q == 3) = true := beq_iff_eq.2 q3
     clear q0 q1 q2 q3
     go_wp2_with fail
     refine (sureStar_calls w0 _ g (N + 4 + 4 * 9 + 2) HC2.out HB2.out (by omega)).mono ?_
     rintro e w3 ⟨sp, ss, rfl, ⟨hsp0, hsp1, hss0, hss1⟩, hC3, hB3, hK3⟩
     have HC3 := Aside0.mk hC3
     have HB3 := Aside0.mk hB3
     have HK3 := Aside0.mk (HK2.out.trans hK3 (.inl rfl))
     clear hC3 hB3 hK3 HC2 HB2 HK2 HR2
     obtain ⟨m, hm, hml⟩ := star_set sp ss hsp0 hsp1 hss0 hss1
     have HM := Aside0.mk hm
     clear hm
     go_wp2_with fail
     refine (spec_srChords.calls 40 sp ss m _ HM.out).mono ?_
     rintro e w4 ⟨v4, rfl, hR, hb⟩
     have HC4 := Aside0.mk ((HC3.out.alloc _).below hb)
     have HB4 := Aside0.mk (below_step (below_alloc HB3.out _) hb)
     have HR4 := Aside0.mk (set_made hR (keep_alloc HK3.out _) (below_size (below_alloc HB3.out _)) hg)
     have HK4 := Aside0.mk (keep_below (keep_alloc HK3.out _) hb)
     have hc0 : w4.cell? ⟨w3.heap.size, 0, none⟩ = some (.int .i64 sp) := (blk_cell (blk_below (blk_new w3 _) hb) 0).trans rfl
     clear hR hb HC3 HB3 HK3
     obtain ⟨A4, c4, rfl⟩ := Kd.R_slice HR4.out
     by_cases h12 : 12 < m.length
     ·have b12 : decide ((m.length : Int) > 12) = true := decide_eq_true (by omega)
      have hcl := (Kd.R_reads' HR4.out).2.1
      have q12 : ((12 : Int) ≤ (c4 : Int)) = True := eq_true (by omega)
      go_wp2
      go_ret2
      exact ⟨_, _, m.take 12, rfl, by simp only [List.length_take]; omega, HC4.out.up (by omega), HB4.out, HK4.out, Kd.R_take HR4.out (by omega)⟩
     ·have b12 : decide ((m.length : Int) > 12) = false := decide_eq_false (by omega)
      go_wp2
      go_ret2
      exact ⟨_, _, m, rfl, by omega, HC4.out.up (by omega), HB4.out, HK4.out, HR4.out⟩
    ·have b3 : (q == 3) = false := beq_eq_false_iff_ne.2 q3
     by_cases q4 : q = 4 ∨ q = 5
     ·clear q0 q1 q2 q3
      rcases q4 with q4 | q4
      ·have b4 : (q == 4) = true := beq_iff_eq.2 q4
       clear q4
       go_wp2_with fail
       refine (pick_calls w0 _ g (N + 4 + 4 * 9 + 2) 5 HC2.out HB2.out (by omega)).mono ?_
       rintro e w3 ⟨z, rfl, ⟨hz0, hz1, _⟩, hC1, hB1, hK1⟩
       replace hz1 := hz1 (by omega)
       have HC3 := Aside0.mk hC1
       have HB3 := Aside0.mk hB1
       have HK3 := Aside0.mk (HK2.out.trans hK1 (.inl rfl))
       clear hC1 hB1 hK1 HC2 HB2 HK2 HR2
       obtain ⟨cs, hcs, hcl, hc1, hof⟩ := plane_set z hz0 hz1
       have HCS := Aside0.mk hcs
       have HOF := Aside0.mk hof
       clear hcs hof
       go_wp2_with fail
       refine (spec_cdPlane.calls 40 (4 + 2 * z) cs _ HCS.out).mono ?_
       rintro e w4 ⟨v4, rfl, hR, hb⟩
       obtain ⟨A4, c4, e4⟩ := Kd.R_slice hR
       subst e4
       have HC4 := Aside0.mk (HC3.out.below hb)
       have HB4 := Aside0.mk (below_step HB3.out hb)
       have HK4 := Aside0.mk (keep_below HK3.out hb)
       have hR' := (Kd.R_reads' hR).2.2
       obtain ⟨ad, e4, hx⟩ := Kd.at_int hR' (4 + 2 * z) (by omega) (by omega)
       cases e4
       have HX := Aside0.mk (HOF.out)
       clear hR hR' hb HC3 HB3 HK3
       have hcp : (4 + 2 * z < (cs.length : Int)) = True := eq_true (by omega)
       generalize rd cs (4 + 2 * z) = y at hx hc1 HX
       go_wp2_with fail
       refine (pick_calls w0 _ g (N + 4 + 4 * 9 + 4) y HC4.out HB4.out (by omega)).mono ?_
       rintro e w5 ⟨r, rfl, ⟨hr0, hr1, _⟩, hC1, hB1, hK1⟩
       replace hr1 := hr1 (by omega)
       have HC5 := Aside0.mk hC1
       have HB5 := Aside0.mk hB1
       have HK5 := Aside0.mk (HK4.out.trans hK1 (.inl rfl))
       clear hC1 hB1 hK1 HC4 HB4 HK4 hx
       obtain ⟨m, hm, hml⟩ := HX.out r hr0 hr1
       have HM := Aside0.mk hm
       clear hm
       go_wp2_with fail
       refine (spec_cdPlane.calls 40 (4 + 2 * z) cs _ HCS.out).mono ?_
       rintro e w6 ⟨v6, rfl, hR, hb⟩
       obtain ⟨A6, c6, e6⟩ := Kd.R_slice hR
       subst e6
       have HC6 := Aside0.mk (HC5.out.below hb)
       have HB6 := Aside0.mk (below_step HB5.out hb)
       have HK6 := Aside0.mk (keep_below HK5.out hb)
       have HR6 := Aside0.mk (Kd.R_reads' hR)
       clear hR hb HC5 HB5 HK5
       go_wp2_with fail
       refine (spec_cdOfRank.calls 40 0 (4 + 2 * z) r A6 c6 cs m _ HR6.out.2.2 HR6.out.2.1 HM.out).mono ?_
       rintro e w7 ⟨v7, rfl, hR, hb⟩
       have HC7 := Aside0.mk (HC6.out.below hb)
       have HB7 := Aside0.mk (below_step HB6.out hb)
       have HK7 := Aside0.mk (keep_below HK6.out hb)
       have HR7 := Aside0.mk (set_made hR HK6.out (below_size HB6.out) hg)
       clear hR hb HC6 HB6 HK6
       go_wp2
       go_ret2
       exact ⟨_, _, m, rfl, by omega, HC7.out.up (by omega), HB7.out, HK7.out, HR7.out⟩
      ·have b4 : (q == 4) = false := beq_eq_false_iff_ne.2 (by omega)
       have b5 : (q == 5) = true := beq_iff_eq.2 q4
       clear q4
       go_wp2_with fail
       refine (pick_calls w0 _ g (N + 4 + 4 * 9 + 2) 5 HC2.out HB2.out (by omega)).mono ?_
       rintro e w3 ⟨z, rfl, ⟨hz0, hz1, _⟩, hC1, hB1, hK1⟩
       replace hz1 := hz1 (by omega)
       have HC3 := Aside0.mk hC1
       have HB3 := Aside0.mk hB1
       have HK3 := Aside0.mk (HK2.out.trans hK1 (.inl rfl))
       clear hC1 hB1 hK1 HC2 HB2 HK2 HR2
       obtain ⟨cs, hcs, hcl, hc1, hof⟩ := plane_set z hz0 hz1
       have HCS := Aside0.mk hcs
       have HOF := Aside0.mk hof
       clear hcs hof
       go_wp2_with fail
       refine (spec_cdPlane.calls 40 (4 + 2 * z) cs _ HCS.out).mono ?_
       rintro e w4 ⟨v4, rfl, hR, hb⟩
       obtain ⟨A4, c4, e4⟩ := Kd.R_slice hR
       subst e4
       have HC4 := Aside0.mk (HC3.out.below hb)
       have HB4 := Aside0.mk (below_step HB3.out hb)
       have HK4 := Aside0.mk (keep_below HK3.out hb)
       have hR' := (Kd.R_reads' hR).2.2
       obtain ⟨ad, e4, hx⟩ := Kd.at_int hR' (4 + 2 * z) (by omega) (by omega)
       cases e4
       have HX := Aside0.mk (HOF.out)
       clear hR hR' hb HC3 HB3 HK3
       have hcp : (4 + 2 * z < (cs.length : Int)) = True := eq_true (by omega)
       generalize rd cs (4 + 2 * z) = y at hx hc1 HX
       go_wp2_with fail
       refine (pick_calls w0 _ g (N + 4 + 4 * 9 + 4) y HC4.out HB4.out (by omega)).mono ?_
       rintro e w5 ⟨r, rfl, ⟨hr0, hr1, _⟩, hC1, hB1, hK1⟩
       replace hr1 := hr1 (by omega)
       have HC5 := Aside0.mk hC1
       have HB5 := Aside0.mk hB1
       have HK5 := Aside0.mk (HK4.out.trans hK1 (.inl rfl))
       clear hC1 hB1 hK1 HC4 HB4 HK4 hx
       obtain ⟨m, hm, hml⟩ := HX.out r hr0 hr1
       have HM := Aside0.mk hm
       clear hm
       go_wp2_with fail
       refine (spec_cdPlane.calls 40 (4 + 2 * z) cs _ HCS.out).mono ?_
       rintro e w6 ⟨v6, rfl, hR, hb⟩
       obtain ⟨A6, c6, e6⟩ := Kd.R_slice hR
       subst e6
       have HC6 := Aside0.mk (HC5.out.below hb)
       have HB6 := Aside0.mk (below_step HB5.out hb)
       have HK6 := Aside0.mk (keep_below HK5.out hb)
       have HR6 := Aside0.mk (Kd.R_reads' hR)
       clear hR hb HC5 HB5 HK5
       go_wp2_with fail
       refine (spec_cdOfRank.calls 40 0 (4 + 2 * z) r A6 c6 cs m _ HR6.out.2.2 HR6.out.2.1 HM.out).mono ?_
       rintro e w7 ⟨v7, rfl, hR, hb⟩
       have HC7 := Aside0.mk (HC6.out.below hb)
       have HB7 := Aside0.mk (below_step HB6.out hb)
       have HK7 := Aside0.mk (keep_below HK6.out hb)
       have HR7 := Aside0.mk (set_made hR HK6.out (below_size HB6.out) hg)
       clear hR hb HC6 HB6 HK6
       go_wp2
       go_ret2
       exact ⟨_, _, m, rfl, by omega, HC7.out.up (by omega), HB7.out, HK7.out, HR7.out⟩
     ·have b4 : (q == 4) = false := beq_eq_false_iff_ne.2 (by omega)
      have b5 : (q == 5) = false := beq_eq_false_iff_ne.2 (by omega)
      clear q0 q1 q2 q3 q4
      go_wp2
      go_ret2
      exact ⟨_, _, l, rfl, by omega, HC2.out.up (by omega), HB2.out, HK2.out, HR2.out⟩
def TellsSet (w : World) (e : Ending) (w' : World) : Prop := ∃ (p : Int) (v : Value) (l : List S44), e = .returned (.tuple #[.int .i64 p, v]) ∧ l.length ≤ 60 ∧ Kd.R k44 44 w' w.heap.size (fun _ => True) v l ∧ Below w.heap.size w w'
theorem drawAreChords_calls (A : Option Addr) (c : Nat) (l : List Int) (w : World) (hl : Kd.C (Kd.int .u8) w A l.length l) (hr : isBytes l) :
  Calls Tryz.prog 33 #[.slice A l.length c] w (TellsSet w) := by
 have HL := Aside0.mk hl
 have HR := Aside0.mk hr
 clear hl hr
 go_enter Tryz.func33, Tryz.ntmps33
 go_wp2_with fail
 refine (chords_calls w _ w.heap.size 0 (cur_new (Below.refl _ _) HL.out HR.out rfl) (below_one w _) (by omega)).mono ?_
 rintro e w1 ⟨p, v, m, rfl, hm, hC1, hB1, hK1, hR1⟩
 have HB1 := Aside0.mk hB1
 have HR1 := Aside0.mk (Kd.R_mono (ok' := fun _ => True) hR1 (fun _ _ => trivial))
 clear hB1 hK1 hC1 hR1 HL HR
 go_wp2
 go_ret2
 exact ⟨p, v, m, rfl, hm, HR1.out, HB1.out⟩
theorem drawCrossingPairs_calls (A : Option Addr) (c : Nat) (l : List Int) (w : World) (hl : Kd.C (Kd.int .u8) w A l.length l) (hr : isBytes l) :
  Calls Tryz.prog 5 #[.slice A l.length c] w (TellsSet w) := by
 have HL := Aside0.mk hl
 have HR := Aside0.mk hr
 clear hl hr
 go_enter Tryz.func5, Tryz.ntmps5
 go_wp2_with fail
 refine (drawAreChords_calls A c l _ HL.out HR.out).mono ?_
 rintro e w1 ⟨p, v, m, rfl, hm, hR1, hB1⟩
 have HB1 := Aside0.mk hB1
 have HR1 := Aside0.mk hR1
 clear hB1 hR1 HL HR
 go_wp2
 go_ret2
 exact ⟨p, v, m, rfl, hm, HR1.out, HB1.out⟩
theorem drawTurnChords_calls (A : Option Addr) (c : Nat) (l : List Int) (w : World) (hl : Kd.C (Kd.int .u8) w A l.length l) (hr : isBytes l) :
  Calls Tryz.prog 27 #[.slice A l.length c] w fun e w' => ∃ (p : Int) (v : Value) (m : List S44) (t : Int), e = .returned (.tuple #[.int .i64 p, v, .int .i64 t]) ∧ m.length ≤ 60 ∧ Kd.R k44 44 w' w.heap.size (fun _ => True) v m ∧ Below w.heap.size w w' := by
 have HL := Aside0.mk hl
 have HR := Aside0.mk hr
 clear hl hr
 go_enter Tryz.func27, Tryz.ntmps27
 go_wp2_with fail
 refine (chords_calls w _ w.heap.size 0 (cur_new (Below.refl _ _) HL.out HR.out rfl) (below_one w _) (by omega)).mono ?_
 rintro e w1 ⟨p, v, m, rfl, hm, hC1, hB1, hK1, hR1⟩
 have HC1 := Aside0.mk hC1
 have HB1 := Aside0.mk hB1
 have HR1 := Aside0.mk hR1
 clear hB1 hK1 hC1 hR1 HL HR
 go_wp2_with fail
 refine (pick_calls w _ w.heap.size 200 14 (HC1.out.up (by omega)) HB1.out (by omega)).mono ?_
 rintro e w2 ⟨x, rfl, ⟨hx0, hx1, _⟩, hC2, hB2, hK2⟩
 replace hx1 := hx1 (by omega)
 have HC2 := Aside0.mk hC2
 have HB2 := Aside0.mk hB2
 have HR2 := Aside0.mk (Kd.R_keep HR1.out hK2 (fun _ h => h.1))
 clear hB2 hK2 hC2 HC1 HB1 HR1
 go_wp2_with fail
 refine (pick_calls w _ w.heap.size 202 9 HC2.out HB2.out (by omega)).mono ?_
 rintro e w3 ⟨y, rfl, ⟨hy0, hy1, _⟩, hC3, hB3, hK3⟩
 replace hy1 := hy1 (by omega)
 have HB3 := Aside0.mk hB3
 have HR3 := Aside0.mk (Kd.R_mono (ok' := fun _ => True) (Kd.R_keep HR2.out hK3 (fun _ h => h.1)) (fun _ _ => trivial))
 clear hB3 hK3 hC3 HC2 HB2 HR2
 go_wp2
 go_ret3
 exact ⟨p, v, m, _, rfl, hm, HR3.out, HB3.out⟩
end Go.Proofs.YtfdocedppachkaaGreat.X
end
section
namespace Go.Proofs.YtfdocedppachkaaGreat.X
open Go.RowKit Go.Proofs.YtfdocedppachkaaGreatW.PrintWords Go.Proofs.YtfdocedppachkaaGreatW.PrintLast Go.Proofs.YtfdocedppachkaaGreatW.PrintMore
attribute [local go_sem] max2_int min2_int max_two min_two max_three min_three max_four min_four
set_option linter.unusedVariables false
set_option linter.unusedSimpArgs false
structure SetVal (K : Nat) (n : Int) (l : List S44) (P G : List (List Int)) (T : ByteArray) (D : List Int) (cnt best : Int) (b pl y7 y9 y11 : Bool) : Prop where
 pi : impl_CrossingPairs.f K n l = some (P, b)
 ps : spec_CrossingPairs.f K n l = some (P, b)
 ci : impl_CountPairsCrossing.f K n l = some (cnt, b)
 cs : spec_CountPairsCrossing.f K n l = some (cnt, b)
 li : impl_IsPlane.f K n l = some (pl, b)
 ls : spec_IsPlane.f K n l = some (pl, b)
 gi : impl_CrossingGroups.f K n l = some (G, b)
 gs : spec_CrossingGroups.f K n l = some (G, b)
 si : impl_SidesOfChords.f K n l = some (T, y7)
 ss : spec_SidesOfChords.f K n l = some (T, y7)
 di : impl_FewestDrops.f K n l = some (D, y9)
 ds : spec_FewestDrops.f K n l = some (D, y9)
 mi : impl_MostCrossed.f K n l = some (best, y11)
 ms : spec_MostCrossed.f K n l = some (best, y11)
 ai : impl_AreChords.f K n l = some b
 av : spec_AreChords.f K n l = some b
 pp : laws_gRows.f K P P = some true
 gg : laws_gRows.f K G G = some true
 dd : laws_gSame.f K D D = some true
 f7 : y7 = true → b = true
 f9 : y9 = (b && decide ((l.length : Int) ≤ 12))
 f11 : y11 = (b && decide ((l.length : Int) > 0))
def cntL (n : Nat) (L : List Int) : List Int := (List.range n).map fun (q : Nat) => ((L.count (q : Int) : Nat) : Int)
theorem cntL_len (n : Nat) (L : List Int) : (cntL n L).length = n := by unfold cntL; simp
theorem cntL_rd (n : Nat) (L : List Int) (q : Int) (h0 : 0 ≤ q) (h1 : q < n) : rd (cntL n L) q = (L.count q : Nat) := by
 unfold rd cntL
 rw [List.getD_eq_getElem?_getD, List.getElem?_map, List.getElem?_range (by omega)]
 simp
 rw [Int.max_eq_left h0]
theorem cntL_nil (n : Nat) : cntL n [] = List.replicate n 0 := by
 unfold cntL
 apply List.ext_getElem
 ·simp
 ·intro i h1 h2
  simp
theorem cntL_put (n : Nat) (L : List Int) (q : Int) (h0 : 0 ≤ q) (h1 : q < n) : (cntL n L).set q.toNat (((L.count q : Nat) : Int) + 1) = cntL n (L ++ [q]) := by
 apply List.ext_getElem
 ·simp [cntL_len]
 ·intro i h1 h2
  rw [List.getElem_set]
  unfold cntL
  simp only [List.getElem_map, List.getElem_range, List.count_append]
  by_cases e : q.toNat = i
  ·rw [if_pos e, show ((i : Nat) : Int) = q by omega]
   simp
  ·rw [if_neg e]
   have hne : ¬ (q = (i : Int)) := by omega
   rw [List.count_cons_of_ne hne]
   simp
theorem take_row (R : List (List Int)) (i : Nat) (hi : i < R.length) : (R.take (i + 1)).flatten = (R.take i).flatten ++ rd_L3 R (i : Int) := by
 have h : rd_L3 R (i : Int) = R[i] := by
  unfold rd_L3
  rw [Int.toNat_natCast, List.getD_eq_getElem?_getD, List.getElem?_eq_getElem hi, Option.getD_some]
 rw [h, List.take_add_one, List.getElem?_eq_getElem hi, List.flatten_append]
 simp
theorem take_flat_le (G : List (List Int)) (i : Nat) : (G.take i).flatten.length ≤ G.flatten.length := by
 have h : G.flatten = (G.take i).flatten ++ (G.drop i).flatten := by rw [← List.flatten_append, List.take_append_drop]
 rw [h, List.length_append]
 omega
theorem pairs_len (P : List (List Int)) (h : ∀ q : Nat, q < P.length → (rd_L3 P (q : Int)).length = 2) : ∀ i, i ≤ P.length → (P.take i).flatten.length = 2 * i
 | 0, _ => by simp
 | i + 1, hi => by
  rw [take_row P i (by omega), List.length_append, pairs_len P h i (by omega), h i (by omega)]
  omega
structure PairOk (K : Nat) (n : Int) (l : List S44) (P : List (List Int)) (T : ByteArray) (y7 : Bool) (q i j : Nat) : Prop where
 is : rd_L3 P (q : Int) = [(i : Int), (j : Int)]
 lt : i < j ∧ j < l.length
 cr : impl_AreCrossing.f n (rd_T44 l (i : Int)).f0 (rd_T44 l (i : Int)).f1 (rd_T44 l (j : Int)).f0 (rd_T44 l (j : Int)).f1 = some (true, true)
 sd : y7 = true → ∃ (hi : i < T.size) (hj : j < T.size), ((T[i]'hi).toNat : Int) ≠ ((T[j]'hj).toNat : Int)
structure GroupOk (K : Nat) (P G : List (List Int)) (T : ByteArray) (y7 : Bool) (q : Nat) : Prop where
 len : 0 < (rd_L3 G (q : Int)).length ∧ (rd_L3 G (q : Int)).length ≤ 60
 rises : laws_gRises.f K (rd_L3 G (q : Int)) = some true
 first : 0 < q → 0 < (rd_L3 G (((q - 1 : Nat)) : Int)).length ∧ rd (rd_L3 G (((q - 1 : Nat)) : Int)) 0 < rd (rd_L3 G (q : Int)) 0
 side : y7 = true → 0 ≤ rd (rd_L3 G (q : Int)) 0 ∧ ∃ h : (rd (rd_L3 G (q : Int)) 0).toNat < T.size, ((T[(rd (rd_L3 G (q : Int)) 0).toNat]'h).toNat : Int) = 105
 both : ∀ p : Nat, p < P.length → ∃ c : Bool, laws_gHas.f K (rd_L3 G (q : Int)) (rd (rd_L3 P (p : Int)) 0) = some c ∧ laws_gHas.f K (rd_L3 G (q : Int)) (rd (rd_L3 P (p : Int)) 1) = some c
structure SetOk (K : Nat) (n : Int) (l : List S44) (P G : List (List Int)) (T : ByteArray) (cnt best : Int) (pl y7 y11 : Bool) : Prop where
 lens : l.length ≤ 60 ∧ P.length ≤ 4000 ∧ G.length ≤ 60
 cn : (P.length : Int) = cnt
 plane : pl = ((P.length : Int) == 0)
 even : pl = true → y7 = true
 pair : ∀ q : Nat, q < P.length → ∃ i j : Nat, PairOk K n l P T y7 q i j
 most : y11 = true → 0 ≤ best ∧ best < l.length ∧ ∀ t : Nat, t < l.length → rd (cntL l.length P.flatten) (t : Int) ≤ rd (cntL l.length P.flatten) best
 group : ∀ q : Nat, q < G.length → GroupOk K P G T y7 q
 all : G.flatten.length = l.length
 many : (l.length : Int) - P.length ≤ G.length
structure DropsOk (K : Nat) (P : List (List Int)) (D : List Int) (cnt : Int) (pl : Bool) : Prop where
 len : (D.length : Int) ≤ cnt
 small : P.length ≤ 4000
 rises : laws_gRises.f K D = some true
 none_ : ((D.length : Int) == 0) = pl
 hit : ∀ p : Nat, p < P.length → (rd_L3 P (p : Int)).length = 2 ∧ ∃ c d : Bool, laws_gHas.f K D (rd (rd_L3 P (p : Int)) 0) = some c ∧ laws_gHas.f K D (rd (rd_L3 P (p : Int)) 1) = some d ∧ (c = true ∨ d = true)
structure MoveVal (K : Nat) (m : Int) (l : List S44) (t : Int) (U M : List S44) (z b : Bool) : Prop where
 ti : impl_TurnChords.f K m l t = some (U, z)
 ts : spec_TurnChords.f K m l t = some (U, z)
 mi : impl_MirrorChords.f K m l = some (M, b)
 ms : spec_MirrorChords.f K m l = some (M, b)
 uu : laws_gChords.f K U U = some true
 mm : laws_gChords.f K M M = some true
 zb : z = true → b = true
structure MirrorOk (K : Nat) (m : Int) (l M : List S44) (x : Int) : Prop where
 cx : impl_CountPairsCrossing.f K m l = some (x, true)
 cy : impl_CountPairsCrossing.f K m M = some (x, true)
 twice : impl_MirrorChords.f K m M = some (l, true)
 ll : laws_gChords.f K l l = some true
structure TurnOk (K : Nat) (m : Int) (l U : List S44) (t x : Int) : Prop where
 rng : 3 ≤ m ∧ m ≤ 60 ∧ 0 ≤ t ∧ t < m
 cz : impl_CountPairsCrossing.f K m U = some (x, true)
 home : impl_TurnChords.f K m U (Int.tmod (wrap64 (m - t)) m) = some (l, true)
end Go.Proofs.YtfdocedppachkaaGreat.X
end
section
namespace Go.Proofs.YtfdocedppachkaaGreat.Q
open Go.RowKit Go.Proofs.YtfdocedppachkaaGreat.X Go.Proofs.YtfdocedppachkaaGreatW.PrintWords Go.Proofs.YtfdocedppachkaaGreatW.PrintLast Go.Proofs.YtfdocedppachkaaGreatW.PrintMore
set_option linter.unusedVariables false
set_option linter.unusedSimpArgs false
theorem l1In_eq (a b c : Int) : spec_l1In.f a b c = some (decide (b ≤ a ∧ a ≤ c)) := by
 unfold spec_l1In.f
 by_cases h : a ≥ b
 ·rw [if_pos h]; exact congrArg some (decide_eq_decide.2 (by omega))
 ·rw [if_neg h]; exact congrArg some (decide_eq_false (by omega)).symm
theorem within_eq (a b c : Int) : impl_within.f a b c = some (decide (b ≤ a ∧ a ≤ c)) := by
 unfold impl_within.f
 by_cases h : a ≥ b
 ·rw [if_pos h]; exact congrArg some (decide_eq_decide.2 (by omega))
 ·rw [if_neg h]; exact congrArg some (decide_eq_false (by omega)).symm
theorem srPoints_eq (a : Int) : spec_srPoints.f a = some (decide (3 ≤ a ∧ a ≤ 60)) := by
 unfold spec_srPoints.f; rw [l1In_eq]; rfl
theorem isCircle_eq (a : Int) : impl_isCircle.f a = some (decide (3 ≤ a ∧ a ≤ 60)) := by
 unfold impl_isCircle.f; rw [within_eq]; rfl
def crossB (c d : S44) : Bool := spec_srCross.b c.f0 c.f1 d.f0 d.f1
theorem srCross_cross (c d : S44) : spec_srCross.f c.f0 c.f1 d.f0 d.f1 = some (crossB c d) := rfl
theorem crossB_iff (n : Int) (c d : S44) (hc : Proper n c) (hd : Proper n d) : crossB c d = true ↔ (c.f0 < d.f0 ∧ d.f0 < c.f1 ∧ c.f1 < d.f1) ∨ (d.f0 < c.f0 ∧ c.f0 < d.f1 ∧ d.f1 < c.f1) := by
 unfold Proper at hc hd
 unfold crossB spec_srCross.b
 simp only [Bool.and_eq_true, Bool.not_eq_true', Bool.or_eq_false_iff, beq_eq_false_iff_ne, bne_iff_ne, ne_eq, ← Bool.decide_and]
 rw [decide_eq_decide]
 omega
theorem crossing_eq (n : Int) (c d : S44) (hc : Proper n c) (hd : Proper n d) : impl_crossing.f c.f0 c.f1 d.f0 d.f1 = some (crossB c d) := by
 have h := crossB_iff n c d hc hd
 unfold Proper at hc hd
 unfold impl_crossing.f
 by_cases e : crossB c d = true
 ·have h1 := h.1 e
  rw [e]
  rcases h1 with h1 | h1
  ·rw [if_pos (by omega), if_pos (by omega), if_pos (by omega)]
  ·rw [if_neg (by omega), if_pos (by omega), if_pos (by omega), decide_eq_true (by omega)]
 ·have h1 : ¬ ((c.f0 < d.f0 ∧ d.f0 < c.f1 ∧ c.f1 < d.f1) ∨ (d.f0 < c.f0 ∧ c.f0 < d.f1 ∧ d.f1 < c.f1)) := fun x => e (h.2 x)
  rw [Bool.eq_false_iff.2 e]
  repeat' split
  all_goals first | rfl | (exfalso; omega) | (refine congrArg some (decide_eq_false ?_); omega)
theorem crossB_symm (n : Int) (c d : S44) (hc : Proper n c) (hd : Proper n d) : crossB c d = crossB d c := by
 rw [Bool.eq_iff_iff, crossB_iff n c d hc hd, crossB_iff n d c hd hc]
 omega
def countX (c : S44) (l : List S44) : Nat := l.countP (crossB c)
theorem crossed_loop (n : Int) (c : S44) (hc : Proper n c) (m : List S44) : ∀ (k : Nat) (pre : List S44) (cnt : Int), (∀ x ∈ m, Proper n x) → pre.length + m.length ≤ 1000000 → 0 ≤ cnt → cnt + m.length ≤ 4611686018427387904 → m.length < k →
  impl_crossed.l0 k cnt (pre ++ m) ((pre ++ m).length : Int) pre.length c.f0 c.f1 = some (cnt + countX c m) := by
 induction m with
 | nil =>
  intro k pre cnt _ hl h0 h1 hk
  obtain ⟨k, rfl⟩ : ∃ t, k = t + 1 := ⟨k - 1, by omega⟩
  simp only [impl_crossed.l0, List.append_nil]
  rw [if_neg (by omega)]
  simp [countX]
 | cons x m ih =>
  intro k pre cnt hp hl h0 h1 hk
  obtain ⟨k, rfl⟩ : ∃ t, k = t + 1 := ⟨k - 1, by omega⟩
  simp only [List.length_cons] at hl h1 hk
  have hlen : ((pre ++ x :: m).length : Int) = pre.length + m.length + 1 := by simp; omega
  simp only [impl_crossed.l0]
  rw [if_pos (by omega), if_pos (by omega), if_pos (by omega), rdC_append, crossing_eq n c x hc (hp x (by simp))]
  simp only [Option.bind_some]
  have IH := fun cnt h0 h1 => ih k (pre ++ [x]) cnt (fun y hy => hp y (by simp [hy])) (by simp; omega) h0 h1 (by omega)
  simp only [List.append_assoc, List.cons_append, List.nil_append] at IH
  have hpl : (((pre ++ [x]).length : Nat) : Int) = (pre.length : Int) + 1 := by simp
  rw [hpl] at IH
  rw [wrap64_id (x := cnt + 1) (by omega) (by omega), wrap64_id (by omega) (by omega)]
  unfold countX at IH ⊢
  by_cases e : crossB c x = true
  ·rw [if_pos e, IH (cnt + 1) (by omega) (by omega), List.countP_cons_of_pos e]
   congr 1; omega
  ·rw [if_neg e, IH cnt (by omega) (by omega), List.countP_cons_of_neg e]
theorem crossed_eq (n : Int) (c : S44) (hc : Proper n c) (m : List S44) (hm : ∀ x ∈ m, Proper n x) (hl : m.length ≤ 1000000) (k : Nat) (hk : m.length < k) : impl_crossed.f k m c.f0 c.f1 = some (countX c m : Int) := by
 unfold impl_crossed.f
 have := crossed_loop n c hc m k [] 0 hm (by simpa using hl) (by omega) (by omega) hk
 simpa using this
theorem countX_le (c : S44) (l : List S44) : countX c l ≤ l.length := List.countP_le_length
def pairsX : List S44 → Nat
 | [] => 0
 | x :: l => countX x l + pairsX l
theorem pairsX_snoc (n : Int) (x : S44) (hx : Proper n x) : ∀ (l : List S44), (∀ y ∈ l, Proper n y) → pairsX (l ++ [x]) = pairsX l + countX x l
 | [], _ => by simp [pairsX, countX]
 | y :: l, h => by
  have ih := pairsX_snoc n x hx l (fun z hz => h z (by simp [hz]))
  simp only [List.cons_append, pairsX, ih]
  have e := crossB_symm n x y hx (h y (by simp))
  unfold countX
  rw [List.countP_append, List.countP_cons, List.countP_cons, e]
  simp only [List.countP_nil, Nat.zero_add]
  omega
theorem pairsX_le : ∀ (l : List S44), pairsX l ≤ l.length * l.length
 | [] => by simp [pairsX]
 | x :: l => by
  have h1 := pairsX_le l
  have h2 := countX_le x l
  simp only [pairsX, List.length_cons]
  rw [Nat.add_mul, Nat.mul_add]
  omega
theorem crossings_loop (n : Int) (m : List S44) : ∀ (k : Nat) (pre : List S44), (∀ x ∈ pre ++ m, Proper n x) → pre.length + m.length ≤ 1000000 → pre.length + m.length + m.length < k →
  impl_crossings.l0 k (pre ++ m) (pairsX pre) (pre ++ m) ((pre ++ m).length : Int) pre.length = some (pairsX (pre ++ m) : Int) := by
 induction m with
 | nil =>
  intro k pre hp hl hk
  obtain ⟨k, rfl⟩ : ∃ t, k = t + 1 := ⟨k - 1, by omega⟩
  simp only [impl_crossings.l0, List.append_nil]
  rw [if_neg (by omega)]
 | cons x m ih =>
  intro k pre hp hl hk
  obtain ⟨k, rfl⟩ : ∃ t, k = t + 1 := ⟨k - 1, by omega⟩
  simp only [List.length_cons] at hl hk
  have hlen : ((pre ++ x :: m).length : Int) = pre.length + m.length + 1 := by simp; omega
  simp only [impl_crossings.l0]
  have hpre : ∀ y ∈ pre, Proper n y := fun y hy => hp y (by simp [hy])
  have hx : Proper n x := hp x (by simp)
  rw [if_pos (by omega), if_pos (by omega), if_pos (by omega), if_pos (by omega), rdC_append, Int.toNat_natCast, List.take_left, crossed_eq n x hx pre hpre (by omega) k (by omega)]
  simp only [Option.bind_some]
  have h1 := pairsX_le pre
  have h2 := countX_le x pre
  have h3 : pre.length * pre.length ≤ 1000000 * 1000000 := Nat.mul_le_mul (by omega) (by omega)
  have IH := ih k (pre ++ [x]) (by simpa using hp) (by simp; omega) (by simp; omega)
  rw [pairsX_snoc n x hx pre hpre] at IH
  simp only [List.append_assoc, List.cons_append, List.nil_append] at IH
  have hpl : (((pre ++ [x]).length : Nat) : Int) = (pre.length : Int) + 1 := by simp
  rw [hpl, Int.natCast_add] at IH
  rw [wrap64_id (by omega) (by omega), wrap64_id (by omega) (by omega)]
  exact IH
theorem crossings_eq (n : Int) (l : List S44) (h : ∀ x ∈ l, Proper n x) (hl : l.length ≤ 1000000) (k : Nat) (hk : l.length + l.length < k) : impl_crossings.f k l = some (pairsX l : Int) := by
 unfold impl_crossings.f
 have := crossings_loop n l k [] (by simpa using h) (by simpa using hl) (by simpa using hk)
 simpa [pairsX] using this
def rowP (c : S44) (i : Int) : Int → List S44 → List (List Int)
 | _, [] => []
 | j, x :: m => if crossB c x = true then [i, j] :: rowP c i (j + 1) m else rowP c i (j + 1) m
def allP : Int → List S44 → List (List Int)
 | _, [] => []
 | i, c :: m => rowP c i (i + 1) m ++ allP (i + 1) m
theorem rowP_len (c : S44) (i : Int) : ∀ (m : List S44) (j : Int), (rowP c i j m).length = countX c m
 | [], _ => rfl
 | x :: m, j => by
  unfold rowP countX
  by_cases e : crossB c x = true
  ·rw [if_pos e, List.countP_cons_of_pos e, List.length_cons, rowP_len c i m]; rfl
  ·rw [if_neg e, List.countP_cons_of_neg e, rowP_len c i m]; rfl
theorem allP_len : ∀ (m : List S44) (i : Int), (allP i m).length = pairsX m
 | [], _ => rfl
 | c :: m, i => by
  unfold allP pairsX
  rw [List.length_append, rowP_len, allP_len m]
theorem cdPairs_inner (l : List S44) (hl : l.length ≤ 10000) (c : S44) (i : Int) (m : List S44) : ∀ (k : Nat) (pre : List S44) (acc : List (List Int)) (r : Option (List (List Int))), pre ++ m = l → acc.length + m.length ≤ 1000000000000 → m.length < k →
  (∀ k', k ≤ k' + m.length + 1 → k' < k → spec_cdPairs.l0 k' l (acc ++ rowP c i pre.length m) l (l.length : Int) (wrap64 (i + 1)) = r) →
  spec_cdPairs.l1 k l acc i pre.length l (l.length : Int) i c.f0 c.f1 = r := by
 induction m with
 | nil =>
  intro k pre acc r e h0 hk hr
  obtain ⟨k, rfl⟩ : ∃ t, k = t + 1 := ⟨k - 1, by omega⟩
  rw [List.append_nil] at e
  subst e
  simp only [spec_cdPairs.l1]
  rw [if_neg (by omega)]
  simpa [rowP] using hr k (by simp) (by omega)
 | cons x m ih =>
  intro k pre acc r e h0 hk hr
  obtain ⟨k, rfl⟩ : ∃ t, k = t + 1 := ⟨k - 1, by omega⟩
  simp only [List.length_cons] at h0 hk hr
  have hlen : (l.length : Int) = pre.length + m.length + 1 := by rw [← e]; simp; omega
  simp only [spec_cdPairs.l1]
  have hx : rd_T44 l (pre.length : Int) = x := by rw [← e]; exact rdC_append pre m x
  rw [if_pos (by omega), if_pos (by omega), hx, srCross_cross]
  simp only [Option.bind_some]
  have hpl : (((pre ++ [x]).length : Nat) : Int) = (pre.length : Int) + 1 := by simp
  have IH := fun acc h0 hr => ih k (pre ++ [x]) acc r (by simpa using e) h0 (by omega) hr
  rw [hpl] at IH
  rw [wrap64_id (x := (pre.length : Int) + 1) (by omega) (by omega)]
  by_cases eX : crossB c x = true
  ·rw [if_pos eX, if_pos (by omega)]
   refine IH _ (by simp; omega) (fun k' h1 h2 => ?_)
   have := hr k' (by omega) (by omega)
   unfold rowP at this
   rw [if_pos eX] at this
   rw [List.append_assoc]
   exact this
  ·rw [if_neg eX]
   refine IH acc (by omega) (fun k' h1 h2 => ?_)
   have := hr k' (by omega) (by omega)
   unfold rowP at this
   rw [if_neg eX] at this
   exact this
theorem cdPairs_loop (l : List S44) (hl : l.length ≤ 10000) (m : List S44) : ∀ (k : Nat) (pre : List S44) (acc : List (List Int)), pre ++ m = l → acc.length + m.length * 10000 ≤ 1000000000 → m.length * (l.length + 3) < k →
  spec_cdPairs.l0 k l acc l (l.length : Int) pre.length = some (acc ++ allP pre.length m) := by
 induction m with
 | nil =>
  intro k pre acc e h0 hk
  obtain ⟨k, rfl⟩ : ∃ t, k = t + 1 := ⟨k - 1, by omega⟩
  rw [List.append_nil] at e
  simp only [spec_cdPairs.l0]
  rw [if_neg (by rw [e]; omega)]
  simp [allP]
 | cons x m ih =>
  intro k pre acc e h0 hk
  obtain ⟨k, rfl⟩ : ∃ t, k = t + 1 := ⟨k - 1, by omega⟩
  have hlen : (l.length : Int) = pre.length + m.length + 1 := by rw [← e]; simp; omega
  simp only [spec_cdPairs.l0]
  have hx : rd_T44 l (pre.length : Int) = x := by rw [← e]; exact rdC_append pre m x
  rw [if_pos (by omega), if_pos (by omega), if_pos (by omega), hx, wrap64_id (x := (pre.length : Int) + 1) (by omega) (by omega)]
  simp only [List.length_cons] at h0 hk
  have hmul : (m.length + 1) * (l.length + 3) = m.length * (l.length + 3) + (l.length + 3) := by rw [Nat.add_mul, Nat.one_mul]
  have hpl : (((pre ++ [x]).length : Nat) : Int) = (pre.length : Int) + 1 := by simp
  have hin := cdPairs_inner l hl x pre.length m k (pre ++ [x]) acc (some (acc ++ allP pre.length (x :: m))) (by simpa using e) (by omega) (by omega) (fun k' h2 h3 => by
   have h4 := countX_le x m
   have h5 := rowP_len x pre.length m ((pre ++ [x]).length : Int)
   have := ih k' (pre ++ [x]) (acc ++ rowP x pre.length ((pre ++ [x]).length : Int) m) (by simpa using e) (by rw [List.length_append, h5]; omega) (by omega)
   rw [hpl] at this ⊢
   rw [wrap64_id (by omega) (by omega), this]
   simp only [allP, List.append_assoc])
  rw [hpl] at hin
  exact hin
theorem cdPairs_eq (l : List S44) (hl : l.length ≤ 10000) (k : Nat) (hk : l.length * (l.length + 3) < k) : spec_cdPairs.f k l = some (allP 0 l) := by
 unfold spec_cdPairs.f
 have := cdPairs_loop l hl l k [] [] rfl (by simp; omega) hk
 simpa using this
theorem crossingPairs_inner (n : Int) (l : List S44) (hl : l.length ≤ 10000) (hP : ∀ x ∈ l, Proper n x) (c : S44) (hc : Proper n c) (i : Int) (m : List S44) : ∀ (k : Nat) (pre : List S44) (acc : List (List Int)) (r : Option (List (List Int) × Bool)), pre ++ m = l → acc.length + m.length ≤ 1000000000000 → m.length < k →
  (∀ k', k ≤ k' + m.length + 1 → k' < k → impl_CrossingPairs.l0 k' l (acc ++ rowP c i pre.length m) l (l.length : Int) (wrap64 (i + 1)) = r) →
  impl_CrossingPairs.l1 k l acc i pre.length l (l.length : Int) i c.f0 c.f1 = r := by
 induction m with
 | nil =>
  intro k pre acc r e h0 hk hr
  obtain ⟨k, rfl⟩ : ∃ t, k = t + 1 := ⟨k - 1, by omega⟩
  rw [List.append_nil] at e
  subst e
  simp only [impl_CrossingPairs.l1]
  rw [if_neg (by omega)]
  simpa [rowP] using hr k (by simp) (by omega)
 | cons x m ih =>
  intro k pre acc r e h0 hk hr
  obtain ⟨k, rfl⟩ : ∃ t, k = t + 1 := ⟨k - 1, by omega⟩
  simp only [List.length_cons] at h0 hk hr
  have hlen : (l.length : Int) = pre.length + m.length + 1 := by rw [← e]; simp; omega
  simp only [impl_CrossingPairs.l1]
  have hx : rd_T44 l (pre.length : Int) = x := by rw [← e]; exact rdC_append pre m x
  rw [if_pos (by omega), if_pos (by omega), hx, crossing_eq n c x hc (hP x (by rw [← e]; simp))]
  simp only [Option.bind_some]
  have hpl : (((pre ++ [x]).length : Nat) : Int) = (pre.length : Int) + 1 := by simp
  have IH := fun acc h0 hr => ih k (pre ++ [x]) acc r (by simpa using e) h0 (by omega) hr
  rw [hpl] at IH
  rw [wrap64_id (x := (pre.length : Int) + 1) (by omega) (by omega)]
  by_cases eX : crossB c x = true
  ·rw [if_pos eX, if_pos (by omega)]
   refine IH _ (by simp; omega) (fun k' h1 h2 => ?_)
   have := hr k' (by omega) (by omega)
   unfold rowP at this
   rw [if_pos eX] at this
   rw [List.append_assoc]
   exact this
  ·rw [if_neg eX]
   refine IH acc (by omega) (fun k' h1 h2 => ?_)
   have := hr k' (by omega) (by omega)
   unfold rowP at this
   rw [if_neg eX] at this
   exact this
theorem crossingPairs_loop (n : Int) (l : List S44) (hl : l.length ≤ 10000) (hP : ∀ x ∈ l, Proper n x) (m : List S44) : ∀ (k : Nat) (pre : List S44) (acc : List (List Int)), pre ++ m = l → acc.length + m.length * 10000 ≤ 1000000000 → m.length * (l.length + 3) < k →
  impl_CrossingPairs.l0 k l acc l (l.length : Int) pre.length = some (acc ++ allP pre.length m, true) := by
 induction m with
 | nil =>
  intro k pre acc e h0 hk
  obtain ⟨k, rfl⟩ : ∃ t, k = t + 1 := ⟨k - 1, by omega⟩
  rw [List.append_nil] at e
  simp only [impl_CrossingPairs.l0]
  rw [if_neg (by rw [e]; omega)]
  simp [allP]
 | cons x m ih =>
  intro k pre acc e h0 hk
  obtain ⟨k, rfl⟩ : ∃ t, k = t + 1 := ⟨k - 1, by omega⟩
  have hlen : (l.length : Int) = pre.length + m.length + 1 := by rw [← e]; simp; omega
  simp only [impl_CrossingPairs.l0]
  have hx : rd_T44 l (pre.length : Int) = x := by rw [← e]; exact rdC_append pre m x
  rw [if_pos (by omega), if_pos (by omega), if_pos (by omega), hx, wrap64_id (x := (pre.length : Int) + 1) (by omega) (by omega)]
  simp only [List.length_cons] at h0 hk
  have hmul : (m.length + 1) * (l.length + 3) = m.length * (l.length + 3) + (l.length + 3) := by rw [Nat.add_mul, Nat.one_mul]
  have hpl : (((pre ++ [x]).length : Nat) : Int) = (pre.length : Int) + 1 := by simp
  have hin := crossingPairs_inner n l hl hP x (hP x (by rw [← e]; simp)) pre.length m k (pre ++ [x]) acc (some (acc ++ allP pre.length (x :: m), true)) (by simpa using e) (by omega) (by omega) (fun k' h2 h3 => by
   have h4 := countX_le x m
   have h5 := rowP_len x pre.length m ((pre ++ [x]).length : Int)
   have := ih k' (pre ++ [x]) (acc ++ rowP x pre.length ((pre ++ [x]).length : Int) m) (by simpa using e) (by rw [List.length_append, h5]; omega) (by omega)
   rw [hpl] at this ⊢
   rw [wrap64_id (by omega) (by omega), this]
   simp only [allP, List.append_assoc])
  rw [hpl] at hin
  exact hin
theorem nodup_le {α : Type} [BEq α] [LawfulBEq α] : ∀ (A P : List α), A.Nodup → (∀ x ∈ A, x ∈ P) → A.length ≤ P.length
 | [], _, _, _ => Nat.zero_le _
 | x :: A, P, hA, hP => by
  rw [List.nodup_cons] at hA
  have hx := hP x (List.mem_cons_self ..)
  have h := nodup_le A (P.erase x) hA.2 (fun y hy => by
   have hne : y ≠ x := fun e => hA.1 (e ▸ hy)
   exact (List.mem_erase_of_ne hne).2 (hP y (List.mem_cons_of_mem _ hy)))
  rw [List.length_erase_of_mem hx] at h
  have := List.length_pos_of_mem hx
  rw [List.length_cons]
  omega
theorem rdC_zero (x : S44) (m : List S44) : rd_T44 (x :: m) ((0 : Nat) : Int) = x := rfl
theorem rdC_succ (x : S44) (m : List S44) (t : Nat) : rd_T44 (x :: m) ((t + 1 : Nat) : Int) = rd_T44 m (t : Int) := by
 unfold rd_T44
 rw [Int.toNat_natCast, Int.toNat_natCast]
 rfl
theorem rowP_mem (c : S44) (i : Int) : ∀ (m : List S44) (j : Int) (p : List Int), p ∈ rowP c i j m ↔ ∃ b : Nat, b < m.length ∧ p = [i, j + (b : Int)] ∧ crossB c (rd_T44 m (b : Int)) = true
 | [], j, p => by simp [rowP]
 | x :: m, j, p => by
  have ih := rowP_mem c i m (j + 1) p
  unfold rowP
  have key : (∃ b : Nat, b < (x :: m).length ∧ p = [i, j + (b : Int)] ∧ crossB c (rd_T44 (x :: m) (b : Int)) = true) ↔ (p = [i, j] ∧ crossB c x = true) ∨ ∃ b : Nat, b < m.length ∧ p = [i, j + 1 + (b : Int)] ∧ crossB c (rd_T44 m (b : Int)) = true := by
   constructor
   ·rintro ⟨b, h1, h2, h3⟩
    cases b with
    | zero => exact .inl ⟨by simpa using h2, h3⟩
    | succ b =>
     rw [rdC_succ] at h3
     exact .inr ⟨b, by simpa using h1, by rw [h2, show j + ((b + 1 : Nat) : Int) = j + 1 + (b : Int) by omega], h3⟩
   ·rintro (⟨h1, h2⟩ | ⟨b, h1, h2, h3⟩)
    ·exact ⟨0, by simp, by simpa using h1, h2⟩
    ·exact ⟨b + 1, by simpa using h1, by rw [h2, show j + ((b + 1 : Nat) : Int) = j + 1 + (b : Int) by omega], by rw [rdC_succ]; exact h3⟩
  rw [key]
  by_cases e : crossB c x = true
  ·rw [if_pos e, List.mem_cons, ih]
   simp [e]
  ·rw [if_neg e, ih]
   simp [e]
theorem allP_mem : ∀ (m : List S44) (i : Int) (p : List Int), p ∈ allP i m ↔ ∃ a b : Nat, a < b ∧ b < m.length ∧ p = [i + (a : Int), i + (b : Int)] ∧ crossB (rd_T44 m (a : Int)) (rd_T44 m (b : Int)) = true
 | [], i, p => by simp [allP]
 | c :: m, i, p => by
  unfold allP
  rw [List.mem_append, rowP_mem, allP_mem m (i + 1) p]
  constructor
  ·rintro (⟨b, h1, h2, h3⟩ | ⟨a, b, h1, h2, h3, h4⟩)
   ·exact ⟨0, b + 1, by omega, by simpa using h1, by rw [h2]; simp; omega, by rw [rdC_zero, rdC_succ]; exact h3⟩
   ·exact ⟨a + 1, b + 1, by omega, by simpa using h2, by rw [h3]; simp; omega, by rw [rdC_succ, rdC_succ]; exact h4⟩
  ·rintro ⟨a, b, h1, h2, h3, h4⟩
   obtain ⟨b, rfl⟩ : ∃ t, b = t + 1 := ⟨b - 1, by omega⟩
   cases a with
   | zero =>
    rw [rdC_zero, rdC_succ] at h4
    exact .inl ⟨b, by simpa using h2, by rw [h3]; simp; omega, h4⟩
   | succ a =>
    rw [rdC_succ, rdC_succ] at h4
    exact .inr ⟨a, b, by omega, by simpa using h2, by rw [h3]; simp; omega, h4⟩
def degP (ps : List (List Int)) (x : Int) : Nat := ps.countP (fun p => p.getD 0 0 == x) + ps.countP (fun p => p.getD 1 0 == x)
theorem degP_append (ps qs : List (List Int)) (x : Int) : degP (ps ++ qs) x = degP ps x + degP qs x := by
 unfold degP
 rw [List.countP_append, List.countP_append]
 omega
theorem degP_far (ps : List (List Int)) (x : Int) (h : ∀ p ∈ ps, p.getD 0 0 ≠ x ∧ p.getD 1 0 ≠ x) : degP ps x = 0 := by
 unfold degP
 rw [List.countP_eq_zero.2 (fun p hp => by simpa using (h p hp).1), List.countP_eq_zero.2 (fun p hp => by simpa using (h p hp).2)]
theorem rowP_deg (c : S44) (i : Int) : ∀ (m : List S44) (j : Int) (t : Nat), t < m.length → i < j → degP (rowP c i j m) (j + (t : Int)) = if crossB c (rd_T44 m (t : Int)) = true then 1 else 0
 | [], j, t, h, _ => by simp at h
 | x :: m, j, t, h, hij => by
  have hsplit : rowP c i j (x :: m) = (if crossB c x = true then [[i, j]] else []) ++ rowP c i (j + 1) m := by
   conv => lhs; unfold rowP
   split <;> rfl
  rw [hsplit, degP_append]
  cases t with
  | zero =>
   rw [rdC_zero, degP_far (rowP c i (j + 1) m) _ (fun p hp => by
    obtain ⟨b, _, h2, _⟩ := (rowP_mem c i m (j + 1) p).1 hp
    rw [h2]
    simp
    omega)]
   split
   ·unfold degP; simp; omega
   ·rfl
  | succ t =>
   have ih := rowP_deg c i m (j + 1) t (by simpa using h) (by omega)
   rw [rdC_succ, show j + ((t + 1 : Nat) : Int) = j + 1 + (t : Int) by omega, ih]
   have : degP (if crossB c x = true then [[i, j]] else []) (j + 1 + (t : Int)) = 0 := by
    apply degP_far
    intro p hp
    split at hp
    ·obtain rfl := List.mem_singleton.1 hp
     simp
     omega
    ·simp at hp
   omega
theorem rowP_first (c : S44) (i : Int) (m : List S44) (j : Int) (hij : i < j) : degP (rowP c i j m) i = countX c m := by
 unfold degP
 rw [← rowP_len c i m j, List.countP_eq_length.2 (fun p hp => by
   obtain ⟨b, _, h2, _⟩ := (rowP_mem c i m j p).1 hp
   rw [h2]; simp), List.countP_eq_zero.2 (fun p hp => by
   obtain ⟨b, _, h2, _⟩ := (rowP_mem c i m j p).1 hp
   rw [h2]; simp; omega)]
 omega
theorem allP_deg (n : Int) : ∀ (m : List S44) (i : Int) (t : Nat), (∀ c ∈ m, Proper n c) → t < m.length → degP (allP i m) (i + (t : Int)) = countX (rd_T44 m (t : Int)) m
 | [], i, t, _, h => by simp at h
 | c :: m, i, t, hP, h => by
  unfold allP
  rw [degP_append]
  have hPm : ∀ x ∈ m, Proper n x := fun x hx => hP x (List.mem_cons_of_mem _ hx)
  have hcc : ¬ crossB c c = true := by
   rw [crossB_iff n c c (hP c (List.mem_cons_self ..)) (hP c (List.mem_cons_self ..))]
   omega
  cases t with
  | zero =>
   rw [rdC_zero]
   have e : i + ((0 : Nat) : Int) = i := by simp
   rw [e, rowP_first c i m (i + 1) (by omega), degP_far (allP (i + 1) m) i (fun p hp => by
    obtain ⟨a, b, _, _, h3, _⟩ := (allP_mem m (i + 1) p).1 hp
    rw [h3]; simp; omega)]
   unfold countX
   rw [List.countP_cons_of_neg hcc]
   rfl
  | succ t =>
   have ht : t < m.length := by simpa using h
   have ih := allP_deg n m (i + 1) t hPm ht
   have e : i + ((t + 1 : Nat) : Int) = i + 1 + (t : Int) := by omega
   rw [rdC_succ, e, ih, rowP_deg c i m (i + 1) t ht (by omega)]
   have hm : rd_T44 m (t : Int) ∈ m := by rw [rdC_get m t (by omega) (by omega)]; exact List.getElem_mem _
   have hsym := crossB_symm n c _ (hP c (List.mem_cons_self ..)) (hPm _ hm)
   unfold countX
   by_cases x : crossB c (rd_T44 m (t : Int)) = true
   ·rw [if_pos x, List.countP_cons_of_pos (by rw [← hsym]; exact x)]
    omega
   ·rw [if_neg x, List.countP_cons_of_neg (by rw [← hsym]; exact x)]
    omega
theorem getD_set {α : Type} (l : List α) (i j : Nat) (v d : α) (hi : i < l.length) : (l.set i v).getD j d = if j = i then v else l.getD j d := by
 simp only [List.getD_eq_getElem?_getD, List.getElem?_set]
 by_cases h : i = j
 ·subst h
  simp [hi]
 ·rw [if_neg h, if_neg (fun e => h e.symm)]
def freeG (g : List Int) : Nat := g.countP (fun x => decide (x < 0))
theorem freeG_set (g : List Int) (i : Nat) (v : Int) (hi : i < g.length) (h0 : g.getD i 0 < 0) (hv : 0 ≤ v) : freeG (g.set i v) + 1 = freeG g := by
 unfold freeG
 rw [List.countP_set hi]
 have e : g.getD i 0 = g[i] := by simp [List.getD_eq_getElem?_getD, hi]
 rw [e] at h0
 have hpos : 0 < g.countP (fun x => decide (x < 0)) := List.countP_pos_iff.2 ⟨g[i], List.getElem_mem hi, by simpa using h0⟩
 simp [h0, Int.not_lt.2 hv]
 omega
def rowG (n : Nat) (g : List Int) (a : Nat) : List Int := ((List.range n).filter fun i => decide (g.getD i 0 = (a : Int))).map fun (i : Nat) => (i : Int)
def rowsG (n : Nat) (g : List Int) : Nat → List (List Int)
 | 0 => []
 | m + 1 => rowsG n g m ++ (if rowG n g m = [] then [] else [rowG n g m])
theorem rowG_same (n : Nat) (g g' : List Int) (a : Nat) (h : ∀ i, i < n → (g'.getD i 0 = (a : Int) ↔ g.getD i 0 = (a : Int))) : rowG n g' a = rowG n g a := by
 unfold rowG
 congr 1
 apply List.filter_congr
 intro i hi
 have := h i (List.mem_range.1 hi)
 simpa only [decide_eq_decide] using this
theorem rowsG_same (n : Nat) (g g' : List Int) : ∀ (m : Nat), (∀ a, a < m → rowG n g' a = rowG n g a) → rowsG n g' m = rowsG n g m
 | 0, _ => rfl
 | m + 1, h => by
  rw [rowsG, rowsG, rowsG_same n g g' m (fun a ha => h a (by omega)), h m (by omega)]
theorem rowG_mem (n : Nat) (g : List Int) (a : Nat) (x : Int) : x ∈ rowG n g a ↔ 0 ≤ x ∧ x < n ∧ g.getD x.toNat 0 = (a : Int) := by
 unfold rowG
 simp only [List.mem_map, List.mem_filter, List.mem_range, decide_eq_true_eq]
 constructor
 ·rintro ⟨i, ⟨h1, h2⟩, rfl⟩
  exact ⟨by omega, by omega, by simpa using h2⟩
 ·rintro ⟨h1, h2, h3⟩
  exact ⟨x.toNat, ⟨by omega, h3⟩, by omega⟩
theorem rowG_sorted (n : Nat) (g : List Int) (a : Nat) : (rowG n g a).Pairwise (· < ·) := by
 unfold rowG
 rw [List.pairwise_map]
 exact (List.Pairwise.filter _ List.pairwise_lt_range).imp (fun h => by omega)
theorem srt_row (n : Nat) (g : List Int) (a : Nat) (own : List Int) (hn : own.Nodup) (hm : ∀ x, x ∈ own ↔ x ∈ rowG n g a) : srtI own = rowG n g a := by
 have h1 : (srtI own).Pairwise (fun x y => x ≤ y) := by
  have := List.pairwise_mergeSort (le := fun x y : Int => decide (x ≤ y)) (fun a b c h1 h2 => by simp at *; omega) (fun a b => by simp; omega) own
  exact this.imp (fun h => by simpa using h)
 have h2 : (rowG n g a).Pairwise (fun x y => x ≤ y) := (rowG_sorted n g a).imp (fun h => Int.le_of_lt h)
 have hp : (srtI own).Perm (rowG n g a) := by
  refine (List.mergeSort_perm own _).trans ?_
  rw [List.perm_ext_iff_of_nodup hn ((rowG_sorted n g a).imp (fun h => Int.ne_of_lt h))]
  exact hm
 exact hp.eq_of_pairwise (fun a b _ _ h1 h2 => by omega) h1 h2
structure St (n : Nat) (g fa : List Int) (s e : List Bool) : Prop where
 lg : g.length = n
 lf : fa.length = n
 ls : s.length = n
 le : e.length = n
 seen : ∀ i, i < n → s.getD i false = decide (0 ≤ g.getD i 0)
 even : ∀ i, i < n → 0 ≤ g.getD i 0 → e.getD i false = decide (fa.getD i 0 % 2 = 0)
 zero : ∀ i, i < n → g.getD i 0 < 0 → fa.getD i 0 = 0
 far : ∀ i, i < n → 0 ≤ fa.getD i 0 ∧ fa.getD i 0 + freeG g ≤ n
structure Ow (n : Nat) (g : List Int) (f : Nat) (own : List Int) : Prop where
 nodup : own.Nodup
 mem : ∀ x, x ∈ own ↔ x ∈ rowG n g f
 low : ∀ i, i < n → g.getD i 0 ≤ (f : Int)
 old : ∀ i, i ≤ f → i < n → 0 ≤ g.getD i 0
 ne : own ≠ []
theorem St.push {n : Nat} {g fa : List Int} {s e : List Bool} (h : St n g fa s e) (q j : Nat) (v : Int) (hq : q < n) (hj : j < n) (hqj : 0 ≤ g.getD q 0) (hg : g.getD j 0 < 0) (hv : 0 ≤ v) :
  St n (g.set j v) (fa.set j (fa.getD q 0 + 1)) (s.set j true) (e.set j (!(e.getD q false))) := by
 have hU := freeG_set g j v (by rw [h.lg]; exact hj) hg hv
 have hfq := h.far q hq
 refine ⟨by simp [h.lg], by simp [h.lf], by simp [h.ls], by simp [h.le], fun i hi => ?_, fun i hi hgi => ?_, fun i hi hgi => ?_, fun i hi => ?_⟩
 ·rw [getD_set _ _ _ _ _ (by rw [h.ls]; exact hj), getD_set _ _ _ _ _ (by rw [h.lg]; exact hj)]
  by_cases e1 : i = j
  ·rw [if_pos e1, if_pos e1]; simp [hv]
  ·rw [if_neg e1, if_neg e1]; exact h.seen i hi
 ·rw [getD_set _ _ _ _ _ (by rw [h.lg]; exact hj)] at hgi
  rw [getD_set _ _ _ _ _ (by rw [h.le]; exact hj), getD_set _ _ _ _ _ (by rw [h.lf]; exact hj)]
  by_cases e1 : i = j
  ·rw [if_pos e1, if_pos e1, h.even q hq hqj]
   by_cases e2 : fa.getD q 0 % 2 = 0
   ·rw [decide_eq_true e2, decide_eq_false (by omega)]; rfl
   ·rw [decide_eq_false e2, decide_eq_true (by omega)]; rfl
  ·rw [if_neg e1] at hgi
   rw [if_neg e1, if_neg e1]; exact h.even i hi hgi
 ·rw [getD_set _ _ _ _ _ (by rw [h.lg]; exact hj)] at hgi
  rw [getD_set _ _ _ _ _ (by rw [h.lf]; exact hj)]
  by_cases e1 : i = j
  ·rw [if_pos e1] at hgi; omega
  ·rw [if_neg e1] at hgi
   rw [if_neg e1]; exact h.zero i hi hgi
 ·have := h.far i hi
  rw [getD_set _ _ _ _ _ (by rw [h.lf]; exact hj)]
  split <;> omega
theorem Ow.push {n : Nat} {g : List Int} {f : Nat} {own : List Int} (h : Ow n g f own) (lg : g.length = n) (j : Nat) (hj : j < n) (hg : g.getD j 0 < 0) : Ow n (g.set j (f : Int)) f (own ++ [(j : Int)]) := by
 have hset := fun i => getD_set g j i (f : Int) 0 (by rw [lg]; exact hj)
 refine ⟨?_, fun x => ?_, fun i hi => ?_, fun i hif hi => ?_, by simp⟩
 ·rw [List.nodup_append]
  refine ⟨h.nodup, by simp, ?_⟩
  intro a ha b hb e
  simp at hb
  subst hb
  rw [e] at ha
  obtain ⟨_, _, h3⟩ := (rowG_mem n g f _).1 ((h.mem _).1 ha)
  rw [Int.toNat_natCast] at h3
  omega
 ·rw [List.mem_append, h.mem, rowG_mem, rowG_mem, hset]
  simp only [List.mem_singleton]
  constructor
  ·rintro (⟨h1, h2, h3⟩ | rfl)
   ·refine ⟨h1, h2, ?_⟩
    rw [if_neg (fun e => by rw [e] at h3; omega)]
    exact h3
   ·exact ⟨by omega, by omega, by simp⟩
  ·rintro ⟨h1, h2, h3⟩
   by_cases e : x.toNat = j
   ·right; omega
   ·left
    rw [if_neg e] at h3
    exact ⟨h1, h2, h3⟩
 ·rw [hset]
  have := h.low i hi
  split <;> omega
 ·rw [hset]
  have := h.old i hif hi
  split <;> omega
theorem rowsG_push {n : Nat} {g : List Int} (f : Nat) (lg : g.length = n) (j : Nat) (hj : j < n) (hg : g.getD j 0 < 0) : rowsG n (g.set j (f : Int)) f = rowsG n g f := by
 apply rowsG_same
 intro a ha
 apply rowG_same
 intro i hi
 rw [getD_set g j i (f : Int) 0 (by rw [lg]; exact hj)]
 by_cases e : i = j
 ·rw [if_pos e, e]; constructor <;> intro h <;> omega
 ·rw [if_neg e]
def EndG (n : Nat) (G F : List Int) (O : List (List Int)) (E : List Bool) : Prop := G.length = n ∧ F.length = n ∧ E.length = n ∧ (∀ i, i < n → 0 ≤ G.getD i 0 ∧ G.getD i 0 < n) ∧ O = rowsG n G n ∧ (∀ i, i < n → 0 ≤ F.getD i 0 ∧ F.getD i 0 ≤ n) ∧ ∀ i, i < n → E.getD i false = decide (F.getD i 0 % 2 = 0)
def Both (n : Nat) (S : Nat → Option (List Int × List Int)) (I : Nat → Option (List (List Int) × List Bool)) : Prop := ∃ K G F O E, (∀ k, K ≤ k → S k = some (G, F)) ∧ (∀ k, K ≤ k → I k = some (O, E)) ∧ EndG n G F O E
theorem Both.step {n : Nat} {S S' : Nat → Option (List Int × List Int)} {I I' : Nat → Option (List (List Int) × List Bool)} (h : Both n S I) (hs : ∀ k, S' (k + 1) = S k) (hi : ∀ k, I' (k + 1) = I k) : Both n S' I' := by
 obtain ⟨K, G, F, O, E, h1, h2, h3⟩ := h
 refine ⟨K + 1, G, F, O, E, fun k hk => ?_, fun k hk => ?_, h3⟩
 ·obtain ⟨k, rfl⟩ : ∃ t, k = t + 1 := ⟨k - 1, by omega⟩
  rw [hs]; exact h1 k (by omega)
 ·obtain ⟨k, rfl⟩ : ∃ t, k = t + 1 := ⟨k - 1, by omega⟩
  rw [hi]; exact h2 k (by omega)
theorem rd_nat (g : List Int) (i : Nat) : rd g (i : Int) = g.getD i 0 := rfl
theorem rdOf_nat (s : List Bool) (i : Nat) : rdOf false s (i : Int) = s.getD i false := rfl
theorem wrapN (n : Nat) (h : n ≤ 4000000000) : wrap64 ((n : Int) + 1) = ((n + 1 : Nat) : Int) := by
 rw [wrap_step (by omega) (by omega)]; omega
theorem inner_loop (n : Nat) (l : List S44) (hl : l.length = n) (hn : n ≤ 1000) (P : Int) (hP : ∀ x ∈ l, Proper P x) (f i : Nat) (U : Nat) (hUn : U ≤ n) (out : List (List Int)) (d : Nat) :
  ∀ (j : Nat) (g fa : List Int) (s e : List Bool) (own : List Int), j + d = n → St n g fa s e → Ow n g f own → i < own.length → own.length + freeG g = U → out = rowsG n g f →
  (∀ g fa s e own, St n g fa s e → Ow n g f own → i < own.length → own.length + freeG g = U → out = rowsG n g f →
   Both n (fun k => spec_cdGroups.l2 k l g fa (f : Int) own ((i + 1 : Nat) : Int) (n : Int) (f : Int)) (fun k => impl_groups.l1 k l s e out own ((i + 1 : Nat) : Int) (n : Int) (f : Int))) →
  Both n (fun k => spec_cdGroups.l3 k l g fa (f : Int) own (i : Int) (n : Int) (f : Int) (n : Int) (j : Int)) (fun k => impl_groups.l2 k l s e out own (i : Int) (n : Int) (f : Int) (n : Int) (j : Int)) := by
 induction d with
 | zero =>
  intro j g fa s e own hj hS hO hi hU ho H
  refine (H g fa s e own hS hO hi hU ho).step (fun k => ?_) (fun k => ?_)
  ·simp only [spec_cdGroups.l3]
   rw [if_neg (by omega), wrapN i (by omega)]
  ·simp only [impl_groups.l2]
   rw [if_neg (by omega), wrapN i (by omega)]
 | succ d ih =>
  intro j g fa s e own hj hS hO hi hU ho H
  have hjn : j < n := by omega
  have hseen := hS.seen j hjn
  have hlg := hS.lg
  have hls := hS.ls
  have hlf := hS.lf
  have hle := hS.le
  by_cases hg : g.getD j 0 < 0
  ·-- not in a group yet
   obtain ⟨q, hq⟩ : ∃ q : Int, own.getD i 0 = q := ⟨_, rfl⟩
   have hqm : q ∈ own := by rw [← hq, List.getD_eq_getElem?_getD, List.getElem?_eq_getElem hi]; exact List.getElem_mem hi
   obtain ⟨q0, q1, q2⟩ := (rowG_mem n g f q).1 ((hO.mem q).1 hqm)
   obtain ⟨Q, rfl⟩ : ∃ Q : Nat, q = (Q : Int) := ⟨q.toNat, by omega⟩
   rw [Int.toNat_natCast] at q2
   have hQ : Q < n := by omega
   have hc := srCross_cross (rd_T44 l (Q : Int)) (rd_T44 l (j : Int))
   have hPQ : ∀ t : Nat, t < n → Proper P (rd_T44 l (t : Int)) := fun t ht => by rw [rdC_get l t (by omega) (by omega)]; exact hP _ (List.getElem_mem _)
   have hc2 := crossing_eq P _ _ (hPQ Q hQ) (hPQ j hjn)
   by_cases hx : crossB (rd_T44 l (Q : Int)) (rd_T44 l (j : Int)) = true
   ·rw [hx] at hc hc2
    have hS2 := hS.push Q j (f : Int) hQ hjn (by rw [q2]; omega) hg (by omega)
    have hO2 := hO.push hlg j hjn hg
    have hU2 := freeG_set g j (f : Int) (by omega) hg (by omega)
    have hr2 := rowsG_push f hlg j hjn hg
    have hfar := hS.far Q hQ
    have IH := ih (j + 1) _ _ _ _ _ (by omega) hS2 hO2 (by simp; omega) (by simp; omega) (by rw [hr2]; exact ho) H
    refine IH.step (fun k => ?_) (fun k => ?_)
    ·simp only [spec_cdGroups.l3]
     rw [if_pos (by omega), if_pos (by omega), if_pos (by omega), rd_nat g j, if_pos hg, if_pos (by omega), if_pos (by omega), rd_nat own i, hq, if_pos (by omega), if_pos (by omega), if_pos (by omega), hc]
     simp only [Option.bind_some, if_true]
     rw [if_pos (by omega), if_pos (by omega), if_pos (by omega), rd_nat fa Q, Int.toNat_natCast, wrap_step (by omega) (by omega), wrapN j (by omega)]
    ·simp only [impl_groups.l2]
     rw [if_pos (by omega), if_pos (by omega), if_pos (by omega), rdOf_nat s j, if_neg (by rw [hseen, decide_eq_false (by omega)]; simp), if_pos (by omega), if_pos (by omega), rd_nat own i, hq, if_pos (by omega), if_pos (by omega), if_pos (by omega), hc2]
     simp only [Option.bind_some, if_true]
     rw [if_pos (by omega), if_pos (by omega), if_pos (by omega), rdOf_nat e Q, Int.toNat_natCast, wrapN j (by omega)]
   ·have hx2 : crossB (rd_T44 l (Q : Int)) (rd_T44 l (j : Int)) = false := by simpa using hx
    rw [hx2] at hc hc2
    refine (ih (j + 1) g fa s e own (by omega) hS hO hi hU ho H).step (fun k => ?_) (fun k => ?_)
    ·simp only [spec_cdGroups.l3]
     rw [if_pos (by omega), if_pos (by omega), if_pos (by omega), rd_nat g j, if_pos hg, if_pos (by omega), if_pos (by omega), rd_nat own i, hq, if_pos (by omega), if_pos (by omega), if_pos (by omega), hc]
     simp only [Option.bind_some, Bool.false_eq_true, if_false]
     rw [wrapN j (by omega)]
    ·simp only [impl_groups.l2]
     rw [if_pos (by omega), if_pos (by omega), if_pos (by omega), rdOf_nat s j, if_neg (by rw [hseen, decide_eq_false (by omega)]; simp), if_pos (by omega), if_pos (by omega), rd_nat own i, hq, if_pos (by omega), if_pos (by omega), if_pos (by omega), hc2]
     simp only [Option.bind_some, Bool.false_eq_true, if_false]
     rw [wrapN j (by omega)]
  ·refine (ih (j + 1) g fa s e own (by omega) hS hO hi hU ho H).step (fun k => ?_) (fun k => ?_)
   ·simp only [spec_cdGroups.l3]
    rw [if_pos (by omega), if_pos (by omega), if_pos (by omega), rd_nat g j, if_neg hg, wrapN j (by omega)]
   ·simp only [impl_groups.l2]
    rw [if_pos (by omega), if_pos (by omega), if_pos (by omega), rdOf_nat s j, if_pos (by rw [hseen, decide_eq_true (by omega)]), wrapN j (by omega)]
theorem rowsG_len (n : Nat) (g : List Int) : ∀ m, (rowsG n g m).length ≤ m
 | 0 => by simp [rowsG]
 | m + 1 => by
  have := rowsG_len n g m
  rw [rowsG, List.length_append]
  split <;> simp <;> omega
theorem bfs_loop (n : Nat) (l : List S44) (hl : l.length = n) (hn : n ≤ 1000) (P : Int) (hP : ∀ x ∈ l, Proper P x) (f : Nat) (hf : f < n) (U : Nat) (hUn : U ≤ n) (out : List (List Int))
  (Hend : ∀ g fa s e own, St n g fa s e → Ow n g f own → out = rowsG n g f →
   Both n (fun k => spec_cdGroups.l1 k l g fa (n : Int) ((f + 1 : Nat) : Int)) (fun k => impl_groups.l0 k l s e (out ++ [rowG n g f]) (n : Int) ((f + 1 : Nat) : Int))) (d : Nat) :
  ∀ (i : Nat) (g fa : List Int) (s e : List Bool) (own : List Int), i + d = U → i ≤ own.length → St n g fa s e → Ow n g f own → own.length + freeG g = U → out = rowsG n g f →
  Both n (fun k => spec_cdGroups.l2 k l g fa (f : Int) own (i : Int) (n : Int) (f : Int)) (fun k => impl_groups.l1 k l s e out own (i : Int) (n : Int) (f : Int)) := by
 have fin : ∀ (i : Nat) (g fa : List Int) (s e : List Bool) (own : List Int), own.length ≤ i → own.length ≤ n → St n g fa s e → Ow n g f own → out = rowsG n g f →
   Both n (fun k => spec_cdGroups.l2 k l g fa (f : Int) own (i : Int) (n : Int) (f : Int)) (fun k => impl_groups.l1 k l s e out own (i : Int) (n : Int) (f : Int)) := by
  intro i g fa s e own hi hlen hS hO ho
  have hol := rowsG_len n g f
  rw [← ho] at hol
  have hpos : 0 < own.length := List.length_pos_iff.2 hO.ne
  refine (Hend g fa s e own hS hO ho).step (fun k => ?_) (fun k => ?_)
  ·simp only [spec_cdGroups.l2]
   rw [if_neg (by omega), wrapN f (by omega)]
  ·simp only [impl_groups.l1]
   rw [if_neg (by omega)]
   unfold slices_Sort_int_int.f
   rw [if_pos ⟨by omega, by omega⟩, srt_row n g f own hO.nodup hO.mem]
   simp only [Option.bind_some]
   rw [if_pos (by omega), wrapN f (by omega)]
 induction d with
 | zero =>
  intro i g fa s e own hi hle hS hO hU ho
  exact fin i g fa s e own (by omega) (by omega) hS hO ho
 | succ d ih =>
  intro i g fa s e own hi hle hS hO hU ho
  by_cases hx : i < own.length
  ·have IN := inner_loop n l hl hn P hP f i U hUn out n 0 g fa s e own (by omega) hS hO hx hU ho (fun g fa s e own hS hO hi2 hU ho => ih (i + 1) g fa s e own (by omega) (by omega) hS hO hU ho)
   refine IN.step (fun k => ?_) (fun k => ?_)
   ·simp only [spec_cdGroups.l2]
    rw [if_pos (by omega), hl]
    rfl
   ·simp only [impl_groups.l1]
    rw [if_pos (by omega), hl]
    rfl
  ·exact fin i g fa s e own (by omega) (by omega) hS hO ho
theorem first_loop (n : Nat) (l : List S44) (hl : l.length = n) (hn : n ≤ 1000) (P : Int) (hP : ∀ x ∈ l, Proper P x) (d : Nat) :
  ∀ (f : Nat) (g fa : List Int) (s e : List Bool) (out : List (List Int)), f + d = n → St n g fa s e → (∀ i, i < n → g.getD i 0 < (f : Int)) → (∀ i, i < f → i < n → 0 ≤ g.getD i 0) → out = rowsG n g f →
  Both n (fun k => spec_cdGroups.l1 k l g fa (n : Int) (f : Int)) (fun k => impl_groups.l0 k l s e out (n : Int) (f : Int)) := by
 induction d with
 | zero =>
  intro f g fa s e out hf hS hlow hold ho
  obtain rfl : f = n := by omega
  refine ⟨1, g, fa, out, e, fun k hk => ?_, fun k hk => ?_, hS.lg, hS.lf, hS.le, fun i hi => ⟨hold i hi hi, hlow i hi⟩, ho, fun i hi => ?_, fun i hi => hS.even i hi (hold i hi hi)⟩
  ·obtain ⟨k, rfl⟩ : ∃ t, k = t + 1 := ⟨k - 1, by omega⟩
   simp only [spec_cdGroups.l1]
   rw [if_neg (by omega)]
  ·obtain ⟨k, rfl⟩ : ∃ t, k = t + 1 := ⟨k - 1, by omega⟩
   simp only [impl_groups.l0]
   rw [if_neg (by omega)]
  ·have := hS.far i hi
   omega
 | succ d ih =>
  intro f g fa s e out hf hS hlow hold ho
  have hfn : f < n := by omega
  have hlg := hS.lg
  have hls := hS.ls
  have hle := hS.le
  have hlf := hS.lf
  have hseen := hS.seen f hfn
  by_cases hg : g.getD f 0 < 0
  ·have hset := fun i => getD_set g f i (f : Int) 0 (by omega)
   have hU := freeG_set g f (f : Int) (by omega) hg (by omega)
   have hUn : freeG g ≤ n := by rw [← hlg]; exact List.countP_le_length
   have hS2 : St n (g.set f (f : Int)) fa (s.set f true) (e.set f true) := by
    refine ⟨by simp [hlg], hlf, by simp [hls], by simp [hle], fun i hi => ?_, fun i hi hgi => ?_, fun i hi hgi => ?_, fun i hi => ?_⟩
    ·rw [hset, getD_set _ _ _ _ _ (by omega)]
     by_cases e1 : i = f
     ·rw [if_pos e1, if_pos e1]; simp
     ·rw [if_neg e1, if_neg e1]; exact hS.seen i hi
    ·rw [hset] at hgi
     rw [getD_set _ _ _ _ _ (by omega)]
     by_cases e1 : i = f
     ·rw [if_pos e1, e1, hS.zero f hfn hg]; rfl
     ·rw [if_neg e1] at hgi
      rw [if_neg e1]; exact hS.even i hi hgi
    ·rw [hset] at hgi
     by_cases e1 : i = f
     ·rw [if_pos e1] at hgi; omega
     ·rw [if_neg e1] at hgi; exact hS.zero i hi hgi
    ·have := hS.far i hi
     omega
   have hO2 : Ow n (g.set f (f : Int)) f [(f : Int)] := by
    refine ⟨by simp, fun x => ?_, fun i hi => ?_, fun i hif hi => ?_, by simp⟩
    ·rw [rowG_mem, hset]
     simp only [List.mem_singleton]
     constructor
     ·rintro rfl
      exact ⟨by omega, by omega, by simp⟩
     ·rintro ⟨h1, h2, h3⟩
      by_cases e1 : x.toNat = f
      ·omega
      ·rw [if_neg e1] at h3
       have := hlow x.toNat (by omega)
       omega
    ·rw [hset]
     have := hlow i hi
     split <;> omega
    ·rw [hset]
     by_cases e1 : i = f
     ·rw [if_pos e1]; omega
     ·rw [if_neg e1]; exact hold i (by omega) hi
   have IH := bfs_loop n l hl hn P hP f hfn (freeG g) hUn out (fun g fa s e own hS hO ho => by
    refine ih (f + 1) g fa s e (out ++ [rowG n g f]) (by omega) hS (fun i hi => ?_) (fun i hif hi => hO.old i (by omega) hi) ?_
    ·have := hO.low i hi
     omega
    ·rw [rowsG, ← ho, if_neg]
     intro e0
     have hpos := List.length_pos_iff.2 hO.ne
     have := (hO.mem own[0]).1 (List.getElem_mem hpos)
     rw [e0] at this
     simp at this) (freeG g) 0 (g.set f (f : Int)) fa (s.set f true) (e.set f true) [(f : Int)] (by omega) (by simp) hS2 hO2 (by simp; omega) (by rw [rowsG_push f hlg f hfn hg]; exact ho)
   refine IH.step (fun k => ?_) (fun k => ?_)
   ·simp only [spec_cdGroups.l1]
    rw [if_pos (by omega), if_pos (by omega), if_pos (by omega), rd_nat g f, if_neg (by omega), Int.toNat_natCast]
    rfl
   ·simp only [impl_groups.l0]
    rw [if_pos (by omega), if_pos (by omega), if_pos (by omega), rdOf_nat s f, if_neg (by rw [hseen, decide_eq_false (by omega)]; simp), if_pos (by omega), Int.toNat_natCast]
    rfl
  ·refine (ih (f + 1) g fa s e out (by omega) hS (fun i hi => by have := hlow i hi; omega) (fun i hif hi => ?_) ?_).step (fun k => ?_) (fun k => ?_)
   ·by_cases e1 : i = f
    ·rw [e1]; omega
    ·exact hold i (by omega) hi
   ·have e0 : rowG n g f = [] := by
     rw [List.eq_nil_iff_forall_not_mem]
     intro x hx
     obtain ⟨h1, h2, h3⟩ := (rowG_mem n g f x).1 hx
     have := hlow x.toNat (by omega)
     omega
    rw [rowsG, if_pos e0, List.append_nil]; exact ho
   ·simp only [spec_cdGroups.l1]
    rw [if_pos (by omega), if_pos (by omega), if_pos (by omega), rd_nat g f, if_pos (by omega), wrapN f (by omega)]
   ·simp only [impl_groups.l0]
    rw [if_pos (by omega), if_pos (by omega), if_pos (by omega), rdOf_nat s f, if_pos (by rw [hseen, decide_eq_true (by omega)]), wrapN f (by omega)]
theorem start_loop (l : List S44) (n : Nat) (hn : n ≤ 1000) (fa : List Int) (d : Nat) : ∀ (k i : Nat) (r : List Int × List Int), i + d = n → (∀ j, k ≤ j + d + 1 → spec_cdGroups.l1 j l (List.replicate n (-1)) fa (l.length : Int) 0 = some r) → d < k →
  spec_cdGroups.l0 k l (List.replicate i (-1) ++ List.replicate d 0) fa (n : Int) (i : Int) = some r := by
 induction d with
 | zero =>
  intro k i r hi h hk
  obtain ⟨k, rfl⟩ : ∃ t, k = t + 1 := ⟨k - 1, by omega⟩
  obtain rfl : i = n := by omega
  simp only [spec_cdGroups.l0]
  rw [if_neg (by omega)]
  simpa using h k (by omega)
 | succ d ih =>
  intro k i r hi h hk
  obtain ⟨k, rfl⟩ : ∃ t, k = t + 1 := ⟨k - 1, by omega⟩
  have IH := ih k (i + 1) r (by omega) (fun j hj => h j (by omega)) (by omega)
  have e : (List.replicate i (-1 : Int) ++ List.replicate (d + 1) 0).set i (-1) = List.replicate (i + 1) (-1) ++ List.replicate d 0 := by
   rw [List.set_append_right _ _ (by simp), List.length_replicate, Nat.sub_self, List.replicate_succ (n := d), List.set_cons_zero, List.replicate_succ' (n := i), List.append_assoc]
   rfl
  simp only [spec_cdGroups.l0]
  rw [if_pos (by omega), if_pos (by omega), if_pos (by simp; omega), Int.toNat_natCast, e, wrapN i (by omega)]
  exact IH
theorem groups_both (l : List S44) (hn : l.length ≤ 1000) (P : Int) (hP : ∀ x ∈ l, Proper P x) : Both l.length (fun k => spec_cdGroups.f k l) (fun k => impl_groups.f k l) := by
 obtain ⟨n, hl⟩ : ∃ n, l.length = n := ⟨_, rfl⟩
 rw [hl]
 have hfree : freeG (List.replicate n (-1)) ≤ n := by
  have : freeG (List.replicate n (-1)) ≤ (List.replicate n (-1 : Int)).length := List.countP_le_length
  simpa using this
 have gm : ∀ i, i < n → (List.replicate n (-1 : Int)).getD i 0 = -1 := fun i hi => by simp [List.getD_eq_getElem?_getD, hi]
 have gz : ∀ i, i < n → (List.replicate n (0 : Int)).getD i 0 = 0 := fun i hi => by simp [List.getD_eq_getElem?_getD, hi]
 have gf : ∀ i, i < n → (List.replicate n false).getD i false = false := fun i hi => by simp [List.getD_eq_getElem?_getD, hi]
 obtain ⟨K, G, F, O, E, h1, h2, h3⟩ := first_loop n l hl (by omega) P hP n 0 (List.replicate n (-1)) (List.replicate n 0) (List.replicate n false) (List.replicate n false) [] (by omega)
  ⟨by simp, by simp, by simp, by simp, fun i hi => by rw [gm i hi, gf i hi]; rfl, fun i hi hg => by rw [gm i hi] at hg; omega, fun i hi _ => gz i hi, fun i hi => by rw [gz i hi]; omega⟩
  (fun i hi => by rw [gm i hi]; omega) (fun i hi _ => by omega) rfl
 refine ⟨K + n + 5, G, F, O, E, fun k hk => ?_, fun k hk => ?_, h3⟩
 ·show spec_cdGroups.f k l = some (G, F)
  unfold spec_cdGroups.f
  rw [if_pos (by omega), hl, Int.toNat_natCast, if_pos (by omega)]
  simp only [Option.bind_some]
  have := start_loop l n (by omega) (List.replicate n 0) n k 0 (G, F) (by omega) (fun j hj => by rw [hl]; exact h1 j (by omega)) (by omega)
  simpa using this
 ·show impl_groups.f k l = some (O, E)
  unfold impl_groups.f
  rw [if_pos (by omega), hl, Int.toNat_natCast, if_pos (by omega)]
  exact h2 k (by omega)
structure GI (n : Nat) (X : Nat → Nat → Bool) (g fa : List Int) (a : Nat) : Prop where
 lg : g.length = n
 lf : fa.length = n
 low : ∀ i, i < n → 0 ≤ g.getD i 0 → g.getD i 0 ≤ i ∧ g.getD i 0 < a ∧ g.getD (g.getD i 0).toNat 0 = g.getD i 0
 root : ∀ i, i < n → (g.getD i 0 = i ∨ g.getD i 0 < 0) → fa.getD i 0 = 0
 par : ∀ j, j < n → 0 ≤ g.getD j 0 → g.getD j 0 ≠ j → ∃ q, q < n ∧ X q j = true ∧ g.getD q 0 = g.getD j 0 ∧ fa.getD j 0 = wrap64 (fa.getD q 0 + 1)
structure GB (n : Nat) (X : Nat → Nat → Bool) (g fa : List Int) (f : Nat) (Q : List Int) : Prop where
 gi : GI n X g fa (f + 1)
 before : ∀ i, i < f → 0 ≤ g.getD i 0
 gf : g.getD f 0 = f
 mem : ∀ x ∈ Q, ∃ q : Nat, x = q ∧ q < n ∧ g.getD q 0 = f
 all : ∀ i, i < n → g.getD i 0 = f → (i : Int) ∈ Q
 old : ∀ i j, i < n → j < n → X i j = true → 0 ≤ g.getD i 0 → g.getD i 0 ≠ f → g.getD j 0 = g.getD i 0
def Closed (n : Nat) (X : Nat → Nat → Bool) (g : List Int) : Prop := ∀ i j, i < n → j < n → X i j = true → 0 ≤ g.getD i 0 → g.getD j 0 = g.getD i 0
theorem GB.start {n : Nat} {X : Nat → Nat → Bool} {g fa : List Int} {a : Nat} (h : GI n X g fa a) (hb : ∀ i, i < a → 0 ≤ g.getD i 0) (hc : Closed n X g) (ha : a < n) (hg : g.getD a 0 < 0) : GB n X (g.set a (a : Int)) fa a [(a : Int)] := by
 have hlg := h.lg
 have e : ∀ j, (g.set a (a : Int)).getD j 0 = if j = a then (a : Int) else g.getD j 0 := fun j => getD_set g a j _ 0 (by omega)
 have ne : ∀ i, i < n → 0 ≤ g.getD i 0 → (g.getD i 0).toNat ≠ a := fun i hi h0 => by have := (h.low i hi h0).2.1; omega
 refine ⟨⟨by simp [hlg], h.lf, fun i hi h0 => ?_, fun i hi h0 => ?_, fun j hj h0 h1 => ?_⟩, fun i hi => ?_, by rw [e, if_pos rfl], fun x hx => ?_, fun i hi h0 => ?_, fun i j hi hj hx h0 h1 => ?_⟩
 ·rw [e] at h0 ⊢
  by_cases c : i = a
  ·subst c
   rw [if_pos rfl, Int.toNat_natCast, e, if_pos rfl]
   omega
  ·rw [if_neg c] at h0 ⊢
   obtain ⟨l1, l2, l3⟩ := h.low i hi h0
   rw [e, if_neg (ne i hi h0)]
   exact ⟨l1, by omega, l3⟩
 ·rw [e] at h0
  by_cases c : i = a
  ·subst c
   exact h.root i hi (.inr hg)
  ·rw [if_neg c] at h0
   exact h.root i hi h0
 ·rw [e] at h0 h1
  by_cases c : j = a
  ·subst c
   rw [if_pos rfl] at h1
   exact absurd rfl h1
  ·rw [if_neg c] at h0 h1
   obtain ⟨q, q1, q2, q3, q4⟩ := h.par j hj h0 h1
   have hqa : q ≠ a := fun c => by rw [c] at q3; omega
   exact ⟨q, q1, q2, by rw [e, e, if_neg hqa, if_neg c]; exact q3, q4⟩
 ·rw [e, if_neg (by omega)]; exact hb i hi
 ·obtain rfl := List.mem_singleton.1 hx
  exact ⟨a, rfl, ha, by rw [e, if_pos rfl]⟩
 ·rw [e] at h0
  by_cases c : i = a
  ·subst c; exact List.mem_singleton.2 rfl
  ·rw [if_neg c] at h0
   have := (h.low i hi (by omega)).2.1
   omega
 ·rw [e] at h0 h1 ⊢
  by_cases c : i = a
  ·subst c; rw [if_pos rfl] at h1; exact absurd rfl h1
  ·rw [if_neg c] at h0 h1
   have hcl := hc i j hi hj hx h0
   by_cases c2 : j = a
   ·subst c2; omega
   ·rw [if_neg c2, e, if_neg c]; exact hcl
theorem GB.push {n : Nat} {X : Nat → Nat → Bool} {g fa : List Int} {f : Nat} {Q : List Int} (h : GB n X g fa f Q) (q j : Nat) (hq : q < n) (hgq : g.getD q 0 = f) (hj : j < n) (hg : g.getD j 0 < 0) (hx : X q j = true) (hs : ∀ i j, i < n → j < n → X i j = X j i) :
  GB n X (g.set j (f : Int)) (fa.set j (wrap64 (fa.getD q 0 + 1))) f (Q ++ [(j : Int)]) := by
 have hlg := h.gi.lg
 have hlf := h.gi.lf
 have e : ∀ t, (g.set j (f : Int)).getD t 0 = if t = j then (f : Int) else g.getD t 0 := fun t => getD_set g j t _ 0 (by omega)
 have e2 : ∀ t, (fa.set j (wrap64 (fa.getD q 0 + 1))).getD t 0 = if t = j then wrap64 (fa.getD q 0 + 1) else fa.getD t 0 := fun t => getD_set fa j t _ 0 (by omega)
 have hfj : f < j := by
  rcases Nat.lt_trichotomy f j with c | c | c
  ·exact c
  ·subst c; have := h.gf; omega
  ·have := h.before j c; omega
 have hqj : q ≠ j := fun c => by rw [c] at hgq; omega
 have nr : ∀ i, i < n → 0 ≤ g.getD i 0 → (g.getD i 0).toNat ≠ j := fun i hi h0 c => by
  have := (h.gi.low i hi h0).2.2
  rw [c] at this
  omega
 refine ⟨⟨by simp [hlg], by simp [hlf], fun i hi h0 => ?_, fun i hi h0 => ?_, fun t ht h0 h1 => ?_⟩, fun i hi => ?_, ?_, fun x hx => ?_, fun i hi h0 => ?_, fun i t hi ht hxx h0 h1 => ?_⟩
 ·rw [e] at h0 ⊢
  by_cases c : i = j
  ·subst c
   rw [if_pos rfl, Int.toNat_natCast, e, if_neg (by omega), h.gf]
   omega
  ·rw [if_neg c] at h0 ⊢
   rw [e, if_neg (nr i hi h0)]
   exact h.gi.low i hi h0
 ·rw [e] at h0
  rw [e2]
  by_cases c : i = j
  ·subst c
   rw [if_pos rfl] at h0
   omega
  ·rw [if_neg c] at h0 ⊢
   exact h.gi.root i hi h0
 ·rw [e] at h0 h1
  by_cases c : t = j
  ·subst c
   exact ⟨q, hq, hx, by rw [e, e, if_neg hqj, if_pos rfl]; exact hgq, by rw [e2, e2, if_pos rfl, if_neg hqj]⟩
  ·rw [if_neg c] at h0 h1
   obtain ⟨p, p1, p2, p3, p4⟩ := h.gi.par t ht h0 h1
   have hpj : p ≠ j := fun c => by rw [c] at p3; omega
   exact ⟨p, p1, p2, by rw [e, e, if_neg hpj, if_neg c]; exact p3, by rw [e2, e2, if_neg c, if_neg hpj]; exact p4⟩
 ·rw [e, if_neg (by omega)]; exact h.before i hi
 ·rw [e, if_neg (by omega)]; exact h.gf
 ·rcases List.mem_append.1 hx with hm | hm
  ·obtain ⟨p, p1, p2, p3⟩ := h.mem x hm
   have hpj : p ≠ j := fun c => by rw [c] at p3; omega
   exact ⟨p, p1, p2, by rw [e, if_neg hpj]; exact p3⟩
  ·obtain rfl := List.mem_singleton.1 hm
   exact ⟨j, rfl, hj, by rw [e, if_pos rfl]⟩
 ·rw [e] at h0
  by_cases c : i = j
  ·subst c; exact List.mem_append.2 (.inr (List.mem_singleton.2 rfl))
  ·rw [if_neg c] at h0
   exact List.mem_append.2 (.inl (h.all i hi h0))
 ·rw [e] at h0 h1 ⊢
  by_cases c : i = j
  ·subst c; rw [if_pos rfl] at h1; exact absurd rfl h1
  ·rw [if_neg c] at h0 h1
   have ho := h.old i t hi ht hxx h0 h1
   have htj : t ≠ j := fun c => by rw [c] at ho; omega
   rw [if_neg htj, e, if_neg c]
   exact ho
theorem GB.close {n : Nat} {X : Nat → Nat → Bool} {g fa : List Int} {f : Nat} {Q : List Int} (h : GB n X g fa f Q) (hf : f < n) (hs : ∀ i j, i < n → j < n → X i j = X j i) (hd : ∀ t, t < Q.length → ∀ j, j < n → X (Q.getD t 0).toNat j = true → 0 ≤ g.getD j 0) : GI n X g fa (f + 1) ∧ (∀ i, i < f + 1 → 0 ≤ g.getD i 0) ∧ Closed n X g := by
 refine ⟨h.gi, fun i hi => ?_, fun i j hi hj hx h0 => ?_⟩
 ·rcases Nat.lt_or_eq_of_le (Nat.le_of_lt_succ hi) with c | c
  ·exact h.before i c
  ·rw [c, h.gf]; omega
 ·by_cases c : g.getD i 0 = f
  ·have hm := h.all i hi c
   obtain ⟨t, ht, e⟩ := List.getElem_of_mem hm
   have e2 : (Q.getD t 0).toNat = i := by
    rw [List.getD_eq_getElem?_getD, List.getElem?_eq_getElem ht, Option.getD_some, e, Int.toNat_natCast]
   have hj0 := hd t ht j hj (by rw [e2]; exact hx)
   by_cases c2 : g.getD j 0 = f
   ·rw [c2, c]
   ·have := h.old j i hj hi (by rw [hs j i hj hi]; exact hx) hj0 c2
    omega
  ·exact h.old i j hi hj hx h0 c
def PostG (n : Nat) (X : Nat → Nat → Bool) (r : List Int × List Int) : Prop := GI n X r.1 r.2 n ∧ (∀ i, i < n → 0 ≤ r.1.getD i 0) ∧ Closed n X r.1
theorem getD_mem {Q : List Int} {i : Nat} (h : i < Q.length) : Q.getD i 0 ∈ Q := by
 rw [List.getD_eq_getElem?_getD, List.getElem?_eq_getElem h, Option.getD_some]
 exact List.getElem_mem h
theorem getD_left {Q : List Int} {x : Int} {i : Nat} (h : i < Q.length) : (Q ++ [x]).getD i 0 = Q.getD i 0 := by
 rw [List.getD_eq_getElem?_getD, List.getD_eq_getElem?_getD, List.getElem?_append_left h]
theorem groups_inv (l : List S44) (n : Nat) (hl : l.length = n) (hn : n ≤ 1000) (X : Nat → Nat → Bool) (hX : ∀ i j : Nat, i < n → j < n → spec_srCross.f (rd_T44 l (i : Int)).f0 (rd_T44 l (i : Int)).f1 (rd_T44 l (j : Int)).f0 (rd_T44 l (j : Int)).f1 = some (X i j)) (hs : ∀ i j, i < n → j < n → X i j = X j i) (r : List Int × List Int) : ∀ k,
  (∀ (g fa : List Int) (a : Nat), a ≤ n → GI n X g fa a → (∀ i, i < a → 0 ≤ g.getD i 0) → Closed n X g → spec_cdGroups.l1 k l g fa (n : Int) (a : Int) = some r → PostG n X r) ∧
  (∀ (g fa : List Int) (f : Nat) (Q : List Int) (i : Nat), f < n → i ≤ Q.length → Q.length + freeG g ≤ n → GB n X g fa f Q → (∀ t, t < i → ∀ j, j < n → X (Q.getD t 0).toNat j = true → 0 ≤ g.getD j 0) → spec_cdGroups.l2 k l g fa (f : Int) Q (i : Int) (n : Int) (f : Int) = some r → PostG n X r) ∧
  (∀ (g fa : List Int) (f : Nat) (Q : List Int) (i j : Nat), f < n → i < Q.length → Q.length + freeG g ≤ n → j ≤ n → GB n X g fa f Q → (∀ t, t < i → ∀ j, j < n → X (Q.getD t 0).toNat j = true → 0 ≤ g.getD j 0) → (∀ j', j' < j → X (Q.getD i 0).toNat j' = true → 0 ≤ g.getD j' 0) → spec_cdGroups.l3 k l g fa (f : Int) Q (i : Int) (n : Int) (f : Int) (n : Int) (j : Int) = some r → PostG n X r) := by
 intro k
 induction k with
 | zero => exact ⟨fun g fa a _ _ _ _ h => by simp [spec_cdGroups.l1] at h, fun g fa f Q i _ _ _ _ _ h => by simp [spec_cdGroups.l2] at h, fun g fa f Q i j _ _ _ _ _ _ _ h => by simp [spec_cdGroups.l3] at h⟩
 | succ k ih =>
  obtain ⟨ih1, ih2, ih3⟩ := ih
  refine ⟨fun g fa a ha hI hb hc h => ?_, fun g fa f Q i hf hi hU hB hd h => ?_, fun g fa f Q i j hf hi hU hj hB hd hp h => ?_⟩
  ·have hlg := hI.lg
   simp only [spec_cdGroups.l1] at h
   by_cases c : a < n
   ·rw [if_pos (by omega), if_pos (by omega), if_pos (by omega), rd_nat g a] at h
    by_cases c2 : g.getD a 0 ≥ 0
    ·rw [if_pos c2, wrapN a (by omega)] at h
     refine ih1 g fa (a + 1) (by omega) ⟨hI.lg, hI.lf, fun i hi h0 => ?_, hI.root, hI.par⟩ (fun i hi => ?_) hc h
     ·obtain ⟨l1, l2, l3⟩ := hI.low i hi h0
      exact ⟨l1, by omega, l3⟩
     ·rcases Nat.lt_or_eq_of_le (Nat.le_of_lt_succ hi) with c3 | c3
      ·exact hb i c3
      ·rw [c3]; exact c2
    ·rw [if_neg c2, Int.toNat_natCast] at h
     have hfr := freeG_set g a (a : Int) (by omega) (by omega) (by omega)
     have hfl : freeG g ≤ g.length := List.countP_le_length
     exact ih2 _ fa a [(a : Int)] 0 c (by simp) (by simp; omega) (GB.start hI hb hc c (by omega)) (fun t ht => absurd ht (by omega)) h
   ·obtain rfl : a = n := by omega
    rw [if_neg (by omega)] at h
    obtain rfl := Option.some.inj h
    exact ⟨hI, hb, hc⟩
  ·simp only [spec_cdGroups.l2] at h
   by_cases c : i < Q.length
   ·rw [if_pos (by omega), hl] at h
    exact ih3 g fa f Q i 0 hf c hU (by omega) hB hd (fun j' hj' => absurd hj' (by omega)) h
   ·rw [if_neg (by omega), wrapN f (by omega)] at h
    obtain ⟨c1, c2, c3⟩ := hB.close hf hs (fun t ht j hj hx => hd t (by omega) j hj hx)
    exact ih1 g fa (f + 1) (by omega) c1 c2 c3 h
  ·have hlg := hB.gi.lg
   have hlf := hB.gi.lf
   simp only [spec_cdGroups.l3] at h
   obtain ⟨qn, q0, q1, q2⟩ := hB.mem _ (getD_mem hi)
   by_cases c : j < n
   ·rw [if_pos (by omega), if_pos (by omega), if_pos (by omega), rd_nat g j] at h
    by_cases hg : g.getD j 0 < 0
    ·rw [if_pos hg, if_pos (by omega), if_pos (by omega), rd_nat Q i, q0, if_pos (by omega), if_pos (by omega), if_pos (by omega), hX qn j q1 c] at h
     simp only [Option.bind_some] at h
     by_cases hx : X qn j = true
     ·have hfr := freeG_set g j (f : Int) (by omega) hg (by omega)
      have e : ∀ t, (g.set j (f : Int)).getD t 0 = if t = j then (f : Int) else g.getD t 0 := fun t => getD_set g j t _ 0 (by omega)
      have up : ∀ t, 0 ≤ g.getD t 0 → 0 ≤ (g.set j (f : Int)).getD t 0 := fun t h0 => by rw [e]; split <;> omega
      rw [if_pos hx, if_pos (by omega), if_pos (by omega), if_pos (by omega), Int.toNat_natCast, rd_nat fa qn, wrapN j (by omega)] at h
      refine ih3 _ _ f (Q ++ [(j : Int)]) i (j + 1) hf (by simp; omega) (by simp; omega) (by omega) (hB.push qn j q1 q2 c hg hx hs) (fun t ht j' hj' hx' => ?_) (fun j' hj' hx' => ?_) h
      ·rw [getD_left (by omega)] at hx'
       exact up j' (hd t ht j' hj' hx')
      ·rw [getD_left (by omega)] at hx'
       rcases Nat.lt_or_eq_of_le (Nat.le_of_lt_succ hj') with c3 | c3
       ·exact up j' (hp j' c3 hx')
       ·rw [c3, e, if_pos rfl]; omega
     ·rw [if_neg hx, wrapN j (by omega)] at h
      refine ih3 g fa f Q i (j + 1) hf hi hU (by omega) hB hd (fun j' hj' hx' => ?_) h
      rcases Nat.lt_or_eq_of_le (Nat.le_of_lt_succ hj') with c3 | c3
      ·exact hp j' c3 hx'
      ·rw [q0, c3, Int.toNat_natCast] at hx'
       exact absurd hx' hx
    ·rw [if_neg hg, wrapN j (by omega)] at h
     refine ih3 g fa f Q i (j + 1) hf hi hU (by omega) hB hd (fun j' hj' hx' => ?_) h
     rcases Nat.lt_or_eq_of_le (Nat.le_of_lt_succ hj') with c3 | c3
     ·exact hp j' c3 hx'
     ·rw [c3]; omega
   ·obtain rfl : j = n := by omega
    rw [if_neg (by omega), wrapN i (by omega)] at h
    refine ih2 g fa f Q (i + 1) hf (by omega) hU hB (fun t ht j' hj' hx' => ?_) h
    rcases Nat.lt_or_eq_of_le (Nat.le_of_lt_succ ht) with c3 | c3
    ·exact hd t c3 j' hj' hx'
    ·rw [c3] at hx'
     exact hp j' hj' hx'
theorem groups_start (l : List S44) (n : Nat) (hl : l.length = n) (hn : n ≤ 1000) (fa : List Int) (r : List Int × List Int) : ∀ (k : Nat) (g : List Int) (a : Nat), g.length = n → a ≤ n → (∀ i, i < a → g.getD i 0 < 0) → spec_cdGroups.l0 k l g fa (n : Int) (a : Int) = some r → ∃ k' g', g'.length = n ∧ (∀ i, i < n → g'.getD i 0 < 0) ∧ spec_cdGroups.l1 k' l g' fa (n : Int) ((0 : Nat) : Int) = some r := by
 intro k
 induction k with
 | zero => intro g a _ _ _ h; simp [spec_cdGroups.l0] at h
 | succ k ih =>
  intro g a hg ha hi h
  simp only [spec_cdGroups.l0] at h
  by_cases c : a < n
  ·rw [if_pos (by omega), if_pos (by omega), if_pos (by omega), Int.toNat_natCast, wrapN a (by omega)] at h
   refine ih (g.set a (-1)) (a + 1) (by simp [hg]) (by omega) (fun i hi2 => ?_) h
   rw [getD_set g a i _ 0 (by omega)]
   split
   ·omega
   ·exact hi i (by omega)
  ·obtain rfl : a = n := by omega
   rw [if_neg (by omega), hl] at h
   exact ⟨k, g, hg, hi, h⟩
theorem groups_post (l : List S44) (n : Nat) (hl : l.length = n) (hn : n ≤ 1000) (X : Nat → Nat → Bool) (hX : ∀ i j : Nat, i < n → j < n → spec_srCross.f (rd_T44 l (i : Int)).f0 (rd_T44 l (i : Int)).f1 (rd_T44 l (j : Int)).f0 (rd_T44 l (j : Int)).f1 = some (X i j)) (hs : ∀ i j, i < n → j < n → X i j = X j i) (r : List Int × List Int) (k : Nat) (h : spec_cdGroups.f k l = some r) : PostG n X r := by
 unfold spec_cdGroups.f at h
 rw [hl, if_pos (by omega), if_pos (by omega), Int.toNat_natCast] at h
 simp only [Option.bind_some, List.length_replicate] at h
 obtain ⟨k', g, g1, g2, g3⟩ := groups_start l n hl hn _ r k (List.replicate n 0) 0 (by simp) (by omega) (fun i hi => absurd hi (by omega)) h
 have hz : ∀ i, (List.replicate n (0 : Int)).getD i 0 = 0 := fun i => by
  rw [List.getD_eq_getElem?_getD, List.getElem?_replicate]
  split <;> rfl
 exact (groups_inv l n hl hn X hX hs r k').1 g (List.replicate n 0) 0 (by omega) ⟨g1, by simp, fun i hi h0 => by have := g2 i hi; omega, fun i hi _ => hz i, fun j hj h0 => by have := g2 j hj; omega⟩ (fun i hi => absurd hi (by omega)) (fun i j hi _ _ h0 => by have := g2 i hi; omega) g3
theorem filter_both {α : Type} (p : α → Bool) : ∀ l : List α, (l.filter p).length + (l.filter fun a => !p a).length = l.length
 | [] => rfl
 | x :: l => by
  have ih := filter_both p l
  cases h : p x
  ·rw [List.filter_cons_of_neg (by simp [h]), List.filter_cons_of_pos (by simp [h]), List.length_cons, List.length_cons]; omega
  ·rw [List.filter_cons_of_pos (by simp [h]), List.filter_cons_of_neg (by simp [h]), List.length_cons, List.length_cons]; omega
theorem rowsG_map (n : Nat) (g : List Int) : ∀ m, rowsG n g m = ((List.range m).filter fun a => decide (rowG n g a ≠ [])).map (rowG n g)
 | 0 => rfl
 | m + 1 => by
  rw [rowsG, rowsG_map n g m, List.range_succ, List.filter_append, List.map_append]
  congr 1
  by_cases h : rowG n g m = []
  ·rw [if_pos h]; simp [h]
  ·rw [if_neg h]; simp [h]
theorem rowG_ne (n : Nat) (X : Nat → Nat → Bool) (r : List Int × List Int) (h : PostG n X r) (a : Nat) (ha : a < n) : rowG n r.1 a ≠ [] ↔ r.1.getD a 0 = (a : Int) := by
 obtain ⟨h1, h2, h3⟩ := h
 constructor
 ·intro hne
  obtain ⟨x, hx⟩ := List.exists_mem_of_ne_nil _ hne
  obtain ⟨x0, x1, x2⟩ := (rowG_mem n r.1 a x).1 hx
  have := (h1.low x.toNat (by omega) (by omega)).2.2
  rw [x2, Int.toNat_natCast] at this
  exact this
 ·intro e hne
  have : (a : Int) ∈ rowG n r.1 a := (rowG_mem n r.1 a a).2 ⟨by omega, by omega, by rw [Int.toNat_natCast]; exact e⟩
  rw [hne] at this
  simp at this
theorem rowG_head (n : Nat) (X : Nat → Nat → Bool) (r : List Int × List Int) (h : PostG n X r) (a : Nat) (ha : a < n) (e : r.1.getD a 0 = (a : Int)) : ∃ rest, rowG n r.1 a = (a : Int) :: rest := by
 have hm : (a : Int) ∈ rowG n r.1 a := (rowG_mem n r.1 a a).2 ⟨by omega, by omega, by rw [Int.toNat_natCast]; exact e⟩
 have hs := rowG_sorted n r.1 a
 have hmem := fun x => (rowG_mem n r.1 a x).1
 revert hm hs hmem
 generalize rowG n r.1 a = l
 intro hm hs hmem
 cases l with
 | nil => simp at hm
 | cons y l =>
  refine ⟨l, ?_⟩
  rcases List.mem_cons.1 hm with e2 | e2
  ·rw [e2]
  ·have h4 := (List.pairwise_cons.1 hs).1 _ e2
   obtain ⟨y0, y1, y2⟩ := hmem y (List.mem_cons_self ..)
   have := (h.1.low y.toNat (by omega) (by omega)).1
   omega
theorem rows_at (n : Nat) (X : Nat → Nat → Bool) (r : List Int × List Int) (h : PostG n X r) (t : Nat) (ht : t < (rowsG n r.1 n).length) : ∃ a : Nat, a < n ∧ r.1.getD a 0 = (a : Int) ∧ rd_L3 (rowsG n r.1 n) (t : Int) = rowG n r.1 a ∧ ((List.range n).filter fun a => decide (rowG n r.1 a ≠ [])).getD t 0 = a := by
 have hl : t < ((List.range n).filter fun a => decide (rowG n r.1 a ≠ [])).length := by rw [rowsG_map, List.length_map] at ht; exact ht
 have hm := List.mem_filter.1 (List.getElem_mem hl)
 have ha := List.mem_range.1 hm.1
 refine ⟨_, ha, (rowG_ne n X r h _ ha).1 (of_decide_eq_true hm.2), ?_, ?_⟩
 ·unfold rd_L3
  rw [Int.toNat_natCast, List.getD_eq_getElem?_getD, rowsG_map, List.getElem?_map, List.getElem?_eq_getElem hl]
  rfl
 ·rw [List.getD_eq_getElem?_getD, List.getElem?_eq_getElem hl]
  rfl
theorem rows_rise (n : Nat) (X : Nat → Nat → Bool) (r : List Int × List Int) (h : PostG n X r) (t : Nat) (ht : t + 1 < (rowsG n r.1 n).length) (a b : Nat) (ha : ((List.range n).filter fun a => decide (rowG n r.1 a ≠ [])).getD t 0 = a) (hb : ((List.range n).filter fun a => decide (rowG n r.1 a ≠ [])).getD (t + 1) 0 = b) : a < b := by
 have hl : t + 1 < ((List.range n).filter fun a => decide (rowG n r.1 a ≠ [])).length := by rw [rowsG_map, List.length_map] at ht; exact ht
 have hp : ((List.range n).filter fun a => decide (rowG n r.1 a ≠ [])).Pairwise (· < ·) := List.Pairwise.sublist List.filter_sublist List.pairwise_lt_range
 rw [List.getD_eq_getElem?_getD, List.getElem?_eq_getElem (by omega), Option.getD_some] at ha
 rw [List.getD_eq_getElem?_getD, List.getElem?_eq_getElem hl, Option.getD_some] at hb
 rw [← ha, ← hb]
 exact List.pairwise_iff_getElem.1 hp t (t + 1) (by omega) hl (by omega)
theorem rowG_count (n : Nat) (g : List Int) (a : Nat) : (rowG n g a).length = (List.range n).countP fun i => decide (g.getD i 0 = (a : Int)) := by
 unfold rowG
 rw [List.length_map, List.countP_eq_length_filter]
theorem rows_sum (n : Nat) (g : List Int) (h0 : ∀ i, i < n → 0 ≤ g.getD i 0) : ∀ m : Nat, (rowsG n g m).flatten.length = (List.range n).countP fun i => decide (g.getD i 0 < (m : Int))
 | 0 => by
  rw [List.countP_eq_zero.2 (fun i hi => by have := h0 i (List.mem_range.1 hi); rw [decide_eq_false (by omega)]; simp)]
  rfl
 | m + 1 => by
  have e : ∀ (L : List Nat), (∀ i ∈ L, 0 ≤ g.getD i 0) → L.countP (fun i => decide (g.getD i 0 < ((m + 1 : Nat) : Int))) = L.countP (fun i => decide (g.getD i 0 < (m : Int))) + L.countP (fun i => decide (g.getD i 0 = (m : Int))) := by
   intro L
   induction L with
   | nil => intro _; rfl
   | cons x L ih =>
    intro hL
    have ih := ih (fun i hi => hL i (List.mem_cons_of_mem _ hi))
    simp only [List.countP_cons]
    rw [ih]
    by_cases c1 : g.getD x 0 < (m : Int)
    ·rw [decide_eq_true c1, decide_eq_true (show g.getD x 0 < ((m + 1 : Nat) : Int) by omega), decide_eq_false (show ¬ g.getD x 0 = (m : Int) by omega)]
     simp; omega
    ·by_cases c2 : g.getD x 0 = (m : Int)
     ·rw [decide_eq_false c1, decide_eq_true (show g.getD x 0 < ((m + 1 : Nat) : Int) by omega), decide_eq_true c2]
      simp; omega
     ·rw [decide_eq_false c1, decide_eq_false (show ¬ g.getD x 0 < ((m + 1 : Nat) : Int) by omega), decide_eq_false c2]
      simp
  rw [e _ (fun i hi => h0 i (List.mem_range.1 hi)), ← rows_sum n g h0 m, ← rowG_count, rowsG, List.flatten_append, List.length_append]
  congr 1
  split
  ·rename_i h; rw [h]; rfl
  ·simp
theorem rows_all (n : Nat) (X : Nat → Nat → Bool) (r : List Int × List Int) (h : PostG n X r) : (rowsG n r.1 n).flatten.length = n := by
 rw [rows_sum n r.1 h.2.1 n, List.countP_eq_length.2 (fun i hi => by
  have hi := List.mem_range.1 hi
  have := (h.1.low i hi (h.2.1 i hi)).1
  exact decide_eq_true (by omega)), List.length_range]
theorem rows_many (n : Nat) (X : Nat → Nat → Bool) (r : List Int × List Int) (h : PostG n X r) (hF : ∀ i, i < n → 0 ≤ r.2.getD i 0 ∧ r.2.getD i 0 ≤ n) (hn : n ≤ 1000) (hs : ∀ i j, i < n → j < n → X i j = X j i) (P : List (List Int)) (hP : ∀ a b : Nat, a < b → b < n → X a b = true → [(a : Int), (b : Int)] ∈ P) (hX : ∀ i, i < n → X i i = false) : n ≤ (rowsG n r.1 n).length + P.length := by
 obtain ⟨h1, h2, h3⟩ := id h
 have hfi : (rowsG n r.1 n).length = ((List.range n).filter fun a => decide (r.1.getD a 0 = (a : Int))).length := by
  rw [rowsG_map, List.length_map]
  congr 1
  apply List.filter_congr
  intro a ha
  exact decide_eq_decide.2 (rowG_ne n X r h a (List.mem_range.1 ha))
 have hsplit : ((List.range n).filter fun a => decide (r.1.getD a 0 = (a : Int))).length + ((List.range n).filter fun a => !decide (r.1.getD a 0 = (a : Int))).length = n := by
  have := filter_both (fun a => decide (r.1.getD a 0 = (a : Int))) (List.range n)
  rw [List.length_range] at this
  exact this
 have hc : ∀ j : Nat, ∃ q : Nat, j < n → r.1.getD j 0 ≠ (j : Int) → q < n ∧ X q j = true ∧ r.2.getD j 0 = r.2.getD q 0 + 1 := by
  intro j
  by_cases hj : j < n ∧ r.1.getD j 0 ≠ (j : Int)
  ·obtain ⟨q, q1, q2, q3, q4⟩ := h1.par j hj.1 (h2 j hj.1) hj.2
   have := hF q q1
   refine ⟨q, fun _ _ => ⟨q1, q2, ?_⟩⟩
   rw [q4, wrap64_id (by omega) (by omega)]
  ·exact ⟨0, fun x y => absurd ⟨x, y⟩ hj⟩
 obtain ⟨f, hf⟩ := Classical.axiomOfChoice hc
 have key := nodup_le (((List.range n).filter fun a => !decide (r.1.getD a 0 = (a : Int))).map fun j => if f j < j then [((f j : Nat) : Int), ((j : Nat) : Int)] else [((j : Nat) : Int), ((f j : Nat) : Int)]) P ?_ ?_
 ·rw [List.length_map] at key
  omega
 ·rw [List.nodup_iff_pairwise_ne, List.pairwise_map]
  have hnd : ((List.range n).filter fun a => !decide (r.1.getD a 0 = (a : Int))).Nodup := List.Pairwise.sublist List.filter_sublist List.nodup_range
  refine List.Pairwise.imp_of_mem ?_ hnd
  intro a b ha hb hab e
  have ha := List.mem_filter.1 ha
  have hb := List.mem_filter.1 hb
  obtain ⟨a1, a2, a3⟩ := hf a (List.mem_range.1 ha.1) (by simpa using ha.2)
  obtain ⟨b1, b2, b3⟩ := hf b (List.mem_range.1 hb.1) (by simpa using hb.2)
  have hcase : f a = b ∧ f b = a := by
   split at e <;> split at e <;> simp at e <;> omega
  rw [hcase.1] at a3
  rw [hcase.2] at b3
  omega
 ·intro p hp
  obtain ⟨j, hj, rfl⟩ := List.mem_map.1 hp
  have hj := List.mem_filter.1 hj
  have hjn := List.mem_range.1 hj.1
  obtain ⟨a1, a2, a3⟩ := hf j hjn (by simpa using hj.2)
  split
  ·rename_i c
   exact hP _ _ c hjn a2
  ·rename_i c
   have hne : f j ≠ j := fun c => by rw [c, hX j hjn] at a2; simp at a2
   exact hP _ _ (by omega) a1 (by rw [hs j (f j) hjn a1]; exact a2)
def keepL (b : Int → Bool) : Int → List S44 → List S44
 | _, [] => []
 | i, c :: m => if b i = true then keepL b (i + 1) m else c :: keepL b (i + 1) m
theorem keepL_len (b : Int → Bool) : ∀ (m : List S44) (i : Int), (keepL b i m).length ≤ m.length
 | [], _ => Nat.le_refl _
 | c :: m, i => by
  have := keepL_len b m (i + 1)
  simp only [keepL]
  split <;> simp <;> omega
theorem keepL_mem (b : Int → Bool) : ∀ (m : List S44) (i : Int), ∀ x ∈ keepL b i m, x ∈ m
 | [], _, x, h => h
 | c :: m, i, x, h => by
  simp only [keepL] at h
  split at h
  ·exact List.mem_cons_of_mem _ (keepL_mem b m (i + 1) x h)
  ·rcases List.mem_cons.1 h with rfl | h
   ·exact List.mem_cons_self
   ·exact List.mem_cons_of_mem _ (keepL_mem b m (i + 1) x h)
def hitB (b : Int → Bool) (p : List Int) : Bool := b (p.getD 0 0) || b (p.getD 1 0)
theorem row_hit (b : Int → Bool) (c : S44) (i : Int) (hi : b i = true) : ∀ (m : List S44) (j : Int), (rowP c i j m).all (hitB b) = true
 | [], _ => rfl
 | x :: m, j => by
  have ih := row_hit b c i hi m (j + 1)
  simp only [rowP]
  split
  ·rw [List.all_cons, ih]; simp [hitB, hi]
  ·exact ih
theorem row_kept (b : Int → Bool) (c : S44) (i : Int) (hi : b i = false) : ∀ (m : List S44) (j : Int), (rowP c i j m).all (hitB b) = true ↔ countX c (keepL b j m) = 0
 | [], _ => by simp [rowP, keepL, countX]
 | x :: m, j => by
  have ih := row_kept b c i hi m (j + 1)
  simp only [rowP, keepL]
  by_cases h1 : crossB c x = true
  ·rw [if_pos h1, List.all_cons, Bool.and_eq_true, ih]
   by_cases h2 : b j = true
   ·rw [if_pos h2]; simp [hitB, h2]
   ·rw [if_neg h2]
    unfold countX
    rw [List.countP_cons_of_pos h1]
    simp [hitB, hi, h2]
  ·rw [if_neg h1, ih]
   by_cases h2 : b j = true
   ·rw [if_pos h2]
   ·rw [if_neg h2]
    unfold countX
    rw [List.countP_cons_of_neg h1]
theorem all_kept (b : Int → Bool) : ∀ (m : List S44) (i : Int), (allP i m).all (hitB b) = true ↔ pairsX (keepL b i m) = 0
 | [], _ => by simp [allP, keepL, pairsX]
 | c :: m, i => by
  have ih := all_kept b m (i + 1)
  simp only [allP, keepL, List.all_append, Bool.and_eq_true]
  by_cases h : b i = true
  ·rw [if_pos h, ih, row_hit b c i h]
   simp
  ·rw [if_neg h, ih, row_kept b c i (by simpa using h)]
   simp only [pairsX]
   omega
end Go.Proofs.YtfdocedppachkaaGreat.Q
end
section
namespace Go.Proofs.YtfdocedppachkaaGreat.Q
set_option linter.unusedVariables false
set_option linter.unusedSimpArgs false
def lexLe : List Int → List Int → Prop
 | [], _ => True
 | _ :: _, [] => False
 | x :: a, y :: b => x < y ∨ (x = y ∧ lexLe a b)
theorem lexLe_refl : ∀ a : List Int, lexLe a a
 | [] => trivial
 | _ :: a => .inr ⟨rfl, lexLe_refl a⟩
theorem lexLe_antisymm : ∀ a b : List Int, lexLe a b → lexLe b a → a = b
 | [], [], _, _ => rfl
 | [], _ :: _, _, h => h.elim
 | _ :: _, [], h, _ => h.elim
 | x :: a, y :: b, h1, h2 => by
  simp only [lexLe] at h1 h2
  rcases h1 with h1 | ⟨rfl, h1⟩
  ·rcases h2 with h2 | ⟨h2, _⟩ <;> omega
  ·rcases h2 with h2 | ⟨_, h2⟩
   ·omega
   ·rw [lexLe_antisymm a b h1 h2]
theorem lexLe_total : ∀ a b : List Int, lexLe a b ∨ lexLe b a
 | [], _ => .inl trivial
 | _ :: _, [] => .inr trivial
 | x :: a, y :: b => by
  simp only [lexLe]
  rcases lexLe_total a b with h | h <;> rcases Int.lt_trichotomy x y with g | g | g <;> simp [g, h]
theorem lexLe_trans : ∀ a b c : List Int, lexLe a b → lexLe b c → lexLe a c
 | [], _, _, _, _ => trivial
 | _ :: _, [], _, h, _ => h.elim
 | _ :: _, _ :: _, [], _, h => h.elim
 | x :: a, y :: b, z :: c, h1, h2 => by
  simp only [lexLe] at *
  rcases h1 with h1 | ⟨rfl, h1⟩
  ·rcases h2 with h2 | ⟨rfl, h2⟩
   ·exact .inl (by omega)
   ·exact .inl h1
  ·rcases h2 with h2 | ⟨rfl, h2⟩
   ·exact .inl h2
   ·exact .inr ⟨rfl, lexLe_trans a b c h1 h2⟩
def bestLe (a b : List Int) : Prop := a.length < b.length ∨ (a.length = b.length ∧ lexLe a b)
theorem bestLe_refl (a : List Int) : bestLe a a := .inr ⟨rfl, lexLe_refl a⟩
theorem bestLe_trans {a b c : List Int} (h1 : bestLe a b) (h2 : bestLe b c) : bestLe a c := by
 rcases h1 with h1 | ⟨e1, h1⟩ <;> rcases h2 with h2 | ⟨e2, h2⟩
 ·exact .inl (by omega)
 ·exact .inl (by omega)
 ·exact .inl (by omega)
 ·exact .inr ⟨by omega, lexLe_trans a b c h1 h2⟩
theorem bestLe_total (a b : List Int) : bestLe a b ∨ bestLe b a := by
 unfold bestLe
 rcases Nat.lt_trichotomy a.length b.length with h | h | h
 ·exact .inl (.inl h)
 ·rcases lexLe_total a b with g | g
  ·exact .inl (.inr ⟨h, g⟩)
  ·exact .inr (.inr ⟨h.symm, g⟩)
 ·exact .inr (.inl h)
theorem bestLe_antisymm {a b : List Int} (h1 : bestLe a b) (h2 : bestLe b a) : a = b := by
 rcases h1 with h1 | ⟨e1, h1⟩ <;> rcases h2 with h2 | ⟨e2, h2⟩
 ·omega
 ·omega
 ·omega
 ·exact lexLe_antisymm a b h1 h2
def Inc (f n : Int) : List Int → Prop
 | [] => True
 | x :: l => f ≤ x ∧ x < n ∧ Inc (x + 1) n l
theorem Inc.mono {f f' n : Int} (h : f' ≤ f) : ∀ {l : List Int}, Inc f n l → Inc f' n l
 | [], _ => trivial
 | _ :: _, ⟨a, b, c⟩ => ⟨by omega, b, c⟩
def IsBest (n : Int) (P : List Int → Bool) (r : List Int) : Prop := Inc 0 n r ∧ P r = true ∧ ∀ D, Inc 0 n D → P D = true → bestLe r D
theorem isBest_unique {n : Int} {P : List Int → Bool} {r s : List Int} (h1 : IsBest n P r) (h2 : IsBest n P s) : r = s :=
 bestLe_antisymm (h1.2.2 s h2.1 h2.2.1) (h2.2.2 r h1.1 h1.2.1)
def dfsL (P : List Int → Bool) : Nat → Nat → List Int → Int → Option (List Int)
 | 0, _, D, _ => if P D = true then some D else none
 | _ + 1, 0, _, _ => none
 | m + 1, d + 1, D, f => match dfsL P m d (D ++ [f]) (f + 1) with | some r => some r | none => dfsL P (m + 1) d D (f + 1)
theorem dfsL_spec (P : List Int → Bool) : ∀ (d m : Nat) (D : List Int) (f : Int),
  match dfsL P m d D f with
  | some r => ∃ E, r = D ++ E ∧ Inc f (f + d) E ∧ E.length = m ∧ P r = true ∧ ∀ E', Inc f (f + d) E' → E'.length = m → P (D ++ E') = true → lexLe E E'
  | none => ∀ E', Inc f (f + d) E' → E'.length = m → P (D ++ E') = true → False
 | d, 0, D, f => by
  have hz : dfsL P 0 d D f = if P D = true then some D else none := by cases d <;> rfl
  rw [hz]
  by_cases h : P D = true
  ·rw [if_pos h]
   exact ⟨[], by simp, trivial, rfl, h, fun _ _ _ _ => trivial⟩
  ·rw [if_neg h]
   intro E' _ hl hp
   rw [List.length_eq_zero_iff.1 hl, List.append_nil] at hp
   exact h hp
 | 0, m + 1, D, f => by
  simp only [dfsL]
  intro E' hi hl _
  match E', hl with
  | x :: E', _ => have := hi.1; have := hi.2.1; omega
 | d + 1, m + 1, D, f => by
  have i1 := dfsL_spec P d m (D ++ [f]) (f + 1)
  have i2 := dfsL_spec P d (m + 1) D (f + 1)
  have ed : f + 1 + (d : Int) = f + (d + 1 : Nat) := by omega
  rw [ed] at i1 i2
  simp only [dfsL]
  cases h1 : dfsL P m d (D ++ [f]) (f + 1) with
  | some r =>
   rw [h1] at i1
   simp only at i1 ⊢
   obtain ⟨E, e1, e2, e3, e4, e5⟩ := i1
   refine ⟨f :: E, by rw [e1]; simp, ⟨by omega, by omega, e2⟩, by simp [e3], e4, ?_⟩
   intro E' hi hl hp
   match E', hl with
   | x :: E', hl =>
    obtain ⟨a, b, c⟩ := hi
    by_cases hx : x = f
    ·subst hx
     exact .inr ⟨rfl, e5 E' c (by simpa using hl) (by simpa using hp)⟩
    ·exact .inl (by omega)
  | none =>
   rw [h1] at i1
   simp only at i1 ⊢
   have key : ∀ E', Inc f (f + (d + 1 : Nat)) E' → E'.length = m + 1 → P (D ++ E') = true → Inc (f + 1) (f + (d + 1 : Nat)) E' := by
    intro E' hi hl hp
    match E', hl with
    | x :: E', hl =>
     obtain ⟨a, b, c⟩ := hi
     by_cases hx : x = f
     ·subst hx
      exact (i1 E' c (by simpa using hl) (by simpa using hp)).elim
     ·exact ⟨by omega, b, c⟩
   cases h2 : dfsL P (m + 1) d D (f + 1) with
   | some r =>
    rw [h2] at i2
    simp only at i2 ⊢
    obtain ⟨E, e1, e2, e3, e4, e5⟩ := i2
    exact ⟨E, e1, e2.mono (by omega), e3, e4, fun E' hi hl hp => e5 E' (key E' hi hl hp) hl hp⟩
   | none =>
    rw [h2] at i2
    simp only at i2 ⊢
    exact fun E' hi hl hp => i2 E' (key E' hi hl hp) hl hp
theorem inc_len {f n : Int} : ∀ {l : List Int}, Inc f n l → f ≤ n → (l.length : Int) ≤ n - f
 | [], _, h => by simp; omega
 | x :: l, ⟨a, b, c⟩, h => by have := inc_len c (by omega); simp; omega
theorem dfsL_best (P : List Int → Bool) (n m : Nat) (r : List Int) (h : dfsL P m n [] 0 = some r) (hno : ∀ j, j < m → dfsL P j n [] 0 = none) : IsBest n P r := by
 have h1 := dfsL_spec P n m [] 0
 rw [h] at h1
 simp only [List.nil_append, Int.zero_add] at h1
 obtain ⟨E, rfl, e2, e3, e4, e5⟩ := h1
 refine ⟨e2, e4, fun D hD hP => ?_⟩
 rcases Nat.lt_trichotomy D.length m with g | g | g
 ·exfalso
  have h2 := dfsL_spec P n D.length [] 0
  rw [hno _ g] at h2
  simp only [List.nil_append, Int.zero_add] at h2
  exact h2 D hD rfl hP
 ·exact .inr ⟨by omega, e5 D hD g hP⟩
 ·exact .inl (by omega)
theorem dfsL_some (P : List Int → Bool) (n m : Nat) (D : List Int) (hD : Inc 0 n D) (hl : D.length = m) (hP : P D = true) : ∃ r, dfsL P m n [] 0 = some r := by
 have h1 := dfsL_spec P n m [] 0
 cases h : dfsL P m n [] 0 with
 | some r => exact ⟨r, rfl⟩
 | none =>
  rw [h] at h1
  simp only [List.nil_append, Int.zero_add] at h1
  exact (h1 D hD hl hP).elim
def bitsL (set : Nat) : Nat → Nat → List Int
 | _, 0 => []
 | f, d + 1 => if set.testBit f = true then (f : Int) :: bitsL set (f + 1) d else bitsL set (f + 1) d
theorem bitsL_inc (set : Nat) : ∀ (d f : Nat), Inc f ((f : Int) + d) (bitsL set f d)
 | 0, _ => trivial
 | d + 1, f => by
  have ih := bitsL_inc set d (f + 1)
  rw [show (((f + 1 : Nat) : Int) + (d : Int)) = (f : Int) + ((d + 1 : Nat) : Int) by omega] at ih
  simp only [bitsL]
  split
  ·exact ⟨by omega, by omega, by simpa using ih⟩
  ·exact ih.mono (by omega)
theorem bitsL_same (s t : Nat) : ∀ (d f : Nat), (∀ i, f ≤ i → s.testBit i = t.testBit i) → bitsL s f d = bitsL t f d
 | 0, _, _ => rfl
 | d + 1, f, h => by simp only [bitsL]; rw [h f (Nat.le_refl _), bitsL_same s t d (f + 1) (fun i hi => h i (by omega))]
theorem bitsL_shift (s : Nat) : ∀ (d f : Nat), bitsL (2 * s) (f + 1) d = (bitsL s f d).map (· + 1)
 | 0, _ => rfl
 | d + 1, f => by
  simp only [bitsL]
  rw [bitsL_shift s d (f + 1), show (2 * s).testBit (f + 1) = s.testBit f by rw [Nat.testBit_add_one, Nat.mul_div_cancel_left _ (by omega)]]
  split <;> simp
theorem inc_shift {f n : Int} (c : Int) : ∀ {l : List Int}, Inc f n l → Inc (f + c) (n + c) (l.map (· + c))
 | [], _ => trivial
 | x :: l, ⟨a, b, h⟩ => ⟨by show f + c ≤ x + c; omega, by show x + c < n + c; omega, by have := inc_shift c h; rwa [show x + 1 + c = x + c + 1 by omega] at this⟩
theorem bitsL_all : ∀ (n : Nat) (D : List Int), Inc 0 n D → ∃ set, set < 2 ^ n ∧ bitsL set 0 n = D
 | 0, D, h => by
  match D, h with
  | [], _ => exact ⟨0, by decide, rfl⟩
  | x :: D, h => exact absurd h.2.1 (by have := h.1; omega)
 | n + 1, D, h => by
  have tail : ∀ E : List Int, Inc 1 ((n : Int) + 1) E → ∃ set, set < 2 ^ n ∧ bitsL (2 * set) 1 n = E := by
   intro E hE
   have h1 := inc_shift (-1) hE
   rw [show (1 : Int) + -1 = 0 by omega, show (n : Int) + 1 + -1 = n by omega] at h1
   obtain ⟨s, s1, s2⟩ := bitsL_all n _ h1
   refine ⟨s, s1, ?_⟩
   rw [bitsL_shift s n 0, s2, List.map_map]
   conv => rhs; rw [← List.map_id E]
   apply List.map_congr_left
   intro x _
   simp; omega
  match D, h with
  | [], _ =>
   obtain ⟨s, s1, s2⟩ := tail [] trivial
   refine ⟨2 * s, by rw [Nat.pow_succ]; omega, ?_⟩
   simp only [bitsL]
   rw [if_neg (by simp [Nat.testBit_zero]), s2]
  | x :: D, h =>
   obtain ⟨a, b, c⟩ := h
   by_cases hx : x = 0
   ·subst hx
    obtain ⟨s, s1, s2⟩ := tail D (by simpa using c)
    refine ⟨2 * s + 1, by rw [Nat.pow_succ]; omega, ?_⟩
    simp only [bitsL]
    rw [if_pos (by simp [Nat.testBit_zero]), bitsL_same (2 * s + 1) (2 * s) n 1, s2]
    ·rfl
    ·intro i hi
     obtain ⟨i, rfl⟩ : ∃ j, i = j + 1 := ⟨i - 1, by omega⟩
     rw [Nat.testBit_add_one, Nat.testBit_add_one]
     congr 1
     omega
   ·obtain ⟨s, s1, s2⟩ := tail (x :: D) ⟨by omega, by omega, c⟩
    refine ⟨2 * s, by rw [Nat.pow_succ]; omega, ?_⟩
    simp only [bitsL]
    rw [if_neg (by simp [Nat.testBit_zero]), s2]
def Known (P : List Int → Bool) (n t : Nat) : Option (List Int) → Prop
 | none => ∀ s, s < t → ¬ P (bitsL s 0 n) = true
 | some b => Inc 0 n b ∧ P b = true ∧ ∀ s, s < t → P (bitsL s 0 n) = true → bestLe b (bitsL s 0 n)
theorem known_skip {P : List Int → Bool} {n t : Nat} {b : List Int} (h : Known P n t (some b)) (hb : ¬ bestLe (bitsL t 0 n) b) : Known P n (t + 1) (some b) := by
 refine ⟨h.1, h.2.1, fun s hs hp => ?_⟩
 by_cases e : s = t
 ·subst e
  exact (bestLe_total _ _).resolve_right hb
 ·exact h.2.2 s (by omega) hp
theorem known_not {P : List Int → Bool} {n t : Nat} {o : Option (List Int)} (h : Known P n t o) (hp : ¬ P (bitsL t 0 n) = true) : Known P n (t + 1) o := by
 cases o with
 | none =>
  intro s hs
  by_cases e : s = t
  ·subst e; exact hp
  ·exact h s (by omega)
 | some b =>
  refine ⟨h.1, h.2.1, fun s hs hq => ?_⟩
  by_cases e : s = t
  ·subst e; exact absurd hq hp
  ·exact h.2.2 s (by omega) hq
theorem known_take {P : List Int → Bool} {n t : Nat} {o : Option (List Int)} (h : Known P n t o) (hp : P (bitsL t 0 n) = true) (hb : ∀ b, o = some b → bestLe (bitsL t 0 n) b) : Known P n (t + 1) (some (bitsL t 0 n)) := by
 refine ⟨by have := bitsL_inc t n 0; simpa using this, hp, fun s hs hq => ?_⟩
 by_cases e : s = t
 ·subst e; exact bestLe_refl _
 ·cases o with
  | none => exact absurd hq (h s (by omega))
  | some b => exact bestLe_trans (hb b rfl) (h.2.2 s (by omega) hq)
theorem known_end {P : List Int → Bool} {n : Nat} {b : List Int} (h : Known P n (2 ^ n) (some b)) : IsBest n P b := by
 refine ⟨h.1, h.2.1, fun D hD hp => ?_⟩
 obtain ⟨s, s1, s2⟩ := bitsL_all n D hD
 rw [← s2]
 exact h.2.2 s s1 (by rw [s2]; exact hp)
end Go.Proofs.YtfdocedppachkaaGreat.Q
end
section
namespace Go.Proofs.YtfdocedppachkaaGreat.Q
open Go.RowKit Go.Proofs.YtfdocedppachkaaGreat.X Go.Proofs.YtfdocedppachkaaGreatW.PrintWords Go.Proofs.YtfdocedppachkaaGreatW.PrintLast Go.Proofs.YtfdocedppachkaaGreatW.PrintMore
set_option linter.unusedVariables false
set_option linter.unusedSimpArgs false
theorem l1Has_loop (x : Int) (l : List Int) (hl : l.length ≤ 100000) (rest : List Int) : ∀ (done : List Int) (k : Nat), done ++ rest = l → rest.length < k → spec_l1Has.l0 k x l (l.length : Int) (done.length : Int) = some (rest.contains x) := by
 induction rest with
 | nil =>
  intro done k e hk
  obtain ⟨k, rfl⟩ : ∃ t, k = t + 1 := ⟨k - 1, by omega⟩
  rw [List.append_nil] at e
  subst e
  simp only [spec_l1Has.l0]
  rw [if_neg (by omega)]
  rfl
 | cons y rest ih =>
  intro done k e hk
  obtain ⟨k, rfl⟩ : ∃ t, k = t + 1 := ⟨k - 1, by omega⟩
  simp only [List.length_cons] at hk
  have hlr : l.length = done.length + rest.length + 1 := by rw [← e]; simp; omega
  have hrd : rd l (done.length : Int) = y := by rw [← e]; unfold rd; simp
  have IH := ih (done ++ [y]) k (by simpa using e) (by omega)
  rw [show (((done ++ [y]).length : Nat) : Int) = (done.length : Int) + 1 by simp] at IH
  simp only [spec_l1Has.l0]
  rw [if_pos (by omega), if_pos (by omega), if_pos (by omega), hrd, wrap64_id (x := (done.length : Int) + 1) (by omega) (by omega)]
  by_cases h : y = x
  ·rw [if_pos h]; simp [h]
  ·rw [if_neg h, IH]
   have h' : ¬ x = y := fun e => h e.symm
   simp [h']
theorem l1Has_eq (x : Int) (l : List Int) (hl : l.length ≤ 100000) (k : Nat) (hk : l.length < k) : spec_l1Has.f k l x = some (l.contains x) := by
 unfold spec_l1Has.f
 exact l1Has_loop x l hl l [] k rfl hk
theorem rowP_two (c : S44) (i : Int) : ∀ (m : List S44) (j : Int), ∀ p ∈ rowP c i j m, p.length = 2
 | [], _, p, h => by simp [rowP] at h
 | x :: m, j, p, h => by
  simp only [rowP] at h
  split at h
  ·rcases List.mem_cons.1 h with rfl | h
   ·rfl
   ·exact rowP_two c i m (j + 1) p h
  ·exact rowP_two c i m (j + 1) p h
theorem allP_two : ∀ (m : List S44) (i : Int), ∀ p ∈ allP i m, p.length = 2
 | [], _, p, h => by simp [allP] at h
 | c :: m, i, p, h => by
  rw [allP, List.mem_append] at h
  rcases h with h | h
  ·exact rowP_two c i m _ p h
  ·exact allP_two m _ p h
theorem rdLLp (done rest : List (List Int)) (x : List Int) : rd_L3 (done ++ x :: rest) (done.length : Int) = x := by
 unfold rd_L3
 simp
def hitR (D : List Int) : Bool → List Int × Bool | true => (D, true) | false => ([], false)
theorem hit_loop (D : List Int) (hD : D.length ≤ 100) (ps : List (List Int)) (hp : ∀ p ∈ ps, p.length = 2) (hl : ps.length ≤ 100000) (rest : List (List Int)) : ∀ (done : List (List Int)) (k : Nat), done ++ rest = ps → rest.length + 101 < k →
  spec_cdDrops.l0 k D ps (ps.length : Int) (done.length : Int) = some (hitR D (rest.all (hitB D.contains))) := by
 induction rest with
 | nil =>
  intro done k e hk
  obtain ⟨k, rfl⟩ : ∃ t, k = t + 1 := ⟨k - 1, by omega⟩
  rw [List.append_nil] at e
  subst e
  simp only [spec_cdDrops.l0]
  rw [if_neg (by omega)]
  rfl
 | cons p rest ih =>
  intro done k e hk
  obtain ⟨k, rfl⟩ : ∃ t, k = t + 1 := ⟨k - 1, by omega⟩
  simp only [List.length_cons] at hk
  have hlr : ps.length = done.length + rest.length + 1 := by rw [← e]; simp; omega
  have hrd : rd_L3 ps (done.length : Int) = p := by rw [← e]; exact rdLLp done rest p
  have h2 := hp p (by rw [← e]; simp)
  have IH := ih (done ++ [p]) k (by simpa using e) (by omega)
  rw [show (((done ++ [p]).length : Nat) : Int) = (done.length : Int) + 1 by simp] at IH
  simp only [spec_cdDrops.l0]
  rw [hrd, if_pos (by omega), if_pos (by omega), if_pos (by omega), if_pos (by omega), l1Has_eq _ D (by omega) k (by omega), wrap64_id (x := (done.length : Int) + 1) (by omega) (by omega)]
  simp only [Option.bind_some, List.all_cons, hitB]
  have r0 : rd p 0 = p.getD 0 0 := rfl
  have r1 : rd p 1 = p.getD 1 0 := rfl
  rw [r0]
  by_cases h : D.contains (p.getD 0 0) = true
  ·rw [if_pos h, IH, h, Bool.true_or, Bool.true_and]
  ·rw [if_neg h, if_pos (by omega), l1Has_eq _ D (by omega) k (by omega), Option.bind_some, r1]
   by_cases h' : D.contains (p.getD 1 0) = true
   ·rw [if_pos h', IH, h', Bool.or_true, Bool.true_and]
   ·rw [if_neg h', Bool.eq_false_iff.2 h, Bool.eq_false_iff.2 h']
    rfl
def planeB (l : List S44) (D : List Int) : Bool := (allP 0 l).all (hitB D.contains)
def told (o : Option (List Int)) : List Int × Bool := match o with | some r => (r, true) | none => ([], false)
theorem cdDrops_eq (l : List S44) (hl : l.length ≤ 40) : ∀ (m d : Nat) (D : List Int) (f : Int) (k : Nat), f + d = l.length → 0 ≤ f → D.length + m ≤ 100 → 5000 + 2 * d + 1 < k → spec_cdDrops.f k l D f m = some (told (dfsL (planeB l) m d D f))
 | 0, d, D, f, k, hf, h0, hD, hk => by
  obtain ⟨k, rfl⟩ : ∃ t, k = t + 1 := ⟨k - 1, by omega⟩
  have hm : l.length * (l.length + 3) ≤ 40 * 43 := Nat.mul_le_mul (by omega) (by omega)
  have hal := allP_len l 0
  have hpl := pairsX_le l
  have hsq : l.length * l.length ≤ 40 * 40 := Nat.mul_le_mul hl hl
  have hz : dfsL (planeB l) 0 d D f = if planeB l D = true then some D else none := by cases d <;> rfl
  have h := hit_loop D (by omega) (allP 0 l) (allP_two l 0) (by omega) (allP 0 l) [] k rfl (by omega)
  simp only [spec_cdDrops.f]
  rw [if_pos (by rfl), cdPairs_eq l (by omega) k (by omega), Option.bind_some, hz]
  rw [show (([] : List (List Int)).length : Int) = 0 from rfl] at h
  rw [h]
  unfold planeB told
  cases (allP 0 l).all (hitB D.contains) <;> rfl
 | m + 1, d, D, f, k, hf, h0, hD, hk => by
  obtain ⟨k, rfl⟩ : ∃ t, k = t + 1 := ⟨k - 1, by omega⟩
  have loop : ∀ (d : Nat) (f : Int) (k : Nat), f + d = l.length → 0 ≤ f → 5000 + 2 * d < k → spec_cdDrops.l1 k l D ((m + 1 : Nat) : Int) f = some (told (dfsL (planeB l) (m + 1) d D f)) := by
   intro d
   induction d with
   | zero =>
    intro f k hf h0 hk
    obtain ⟨k, rfl⟩ : ∃ t, k = t + 1 := ⟨k - 1, by omega⟩
    simp only [spec_cdDrops.l1]
    rw [if_neg (by omega)]
    rfl
   | succ d ih =>
    intro f k hf h0 hk
    obtain ⟨k, rfl⟩ : ∃ t, k = t + 1 := ⟨k - 1, by omega⟩
    have c1 : spec_l1Own.f D = some D := by
     unfold spec_l1Own.f
     simp only [Option.bind_some, List.nil_append, List.length_nil]
     rw [if_pos (by omega)]
    have c2 := cdDrops_eq l hl m d (D ++ [f]) (f + 1) k (by omega) (by omega) (by simp; omega) (by omega)
    have c3 := ih (f + 1) k (by omega) (by omega) (by omega)
    simp only [spec_cdDrops.l1]
    rw [if_pos (by omega), c1, Option.bind_some, if_pos (by omega), wrap64_id (x := f + 1) (by omega) (by omega), wrap64_id (by omega) (by omega), show ((m + 1 : Nat) : Int) - 1 = (m : Int) by omega, c2, Option.bind_some]
    simp only [dfsL]
    cases h : dfsL (planeB l) m d (D ++ [f]) (f + 1) with
    | some r => simp [told]
    | none =>
     simp only [told, Bool.false_eq_true, if_false]
     exact c3
  have h := loop d f k hf h0 (by omega)
  simp only [spec_cdDrops.f]
  rw [if_neg (by omega)]
  exact h
theorem compare_lex (a b : List Int) (hl : a.length = b.length) (hb : a.length ≤ 100000) : ∀ (ra rb da db : List Int) (k : Nat), da ++ ra = a → db ++ rb = b → da.length = db.length → ra.length < k → ∃ q : Int, slices_Compare_int_int.l0 k a b a (a.length : Int) (da.length : Int) = some q ∧ (q > 0 ↔ ¬ lexLe ra rb)
 | [], rb, da, db, k, ea, eb, ed, hk => by
  obtain ⟨k, rfl⟩ : ∃ t, k = t + 1 := ⟨k - 1, by omega⟩
  refine ⟨0, ?_, by simp [lexLe]⟩
  rw [List.append_nil] at ea
  subst ea
  simp only [slices_Compare_int_int.l0]
  rw [if_neg (by omega), if_neg (by omega)]
 | x :: ra, rb, da, db, k, ea, eb, ed, hk => by
  obtain ⟨k, rfl⟩ : ∃ t, k = t + 1 := ⟨k - 1, by omega⟩
  have hla : a.length = da.length + ra.length + 1 := by rw [← ea]; simp; omega
  have hlb : b.length = db.length + rb.length := by rw [← eb]; simp
  match rb, hlb, eb with
  | [], hlb, _ => simp at hlb; omega
  | y :: rb, hlb, eb =>
   simp only [List.length_cons] at hlb hk
   have r1 : rd a (da.length : Int) = x := by rw [← ea]; unfold rd; simp
   have r2 : rd b (da.length : Int) = y := by rw [ed, ← eb]; unfold rd; simp
   have hc : cmp_Compare_int.f x y = some (if x < y then -1 else if x > y then 1 else 0) := by
    unfold cmp_Compare_int.f cmp_isNaN_int.f
    simp
    split
    ·rfl
    ·split <;> rfl
   simp only [slices_Compare_int_int.l0]
   rw [if_pos (by omega), if_pos (by omega), if_pos (by omega), if_neg (by omega), if_pos (by omega), r1, r2, hc, Option.bind_some]
   by_cases h1 : x < y
   ·rw [if_pos h1, if_neg (by omega)]
    exact ⟨-1, rfl, by simp [lexLe, h1]⟩
   ·rw [if_neg h1]
    by_cases h2 : x > y
    ·rw [if_pos h2, if_neg (by omega)]
     refine ⟨1, rfl, ?_⟩
     simp only [lexLe]
     constructor
     ·rintro - (h | ⟨h, _⟩) <;> omega
     ·intro _; omega
    ·rw [if_neg h2, if_pos rfl, wrap64_id (x := (da.length : Int) + 1) (by omega) (by omega)]
     obtain ⟨q, q1, q2⟩ := compare_lex a b hl hb ra rb (da ++ [x]) (db ++ [y]) k (by simpa using ea) (by simpa using eb) (by simp [ed]) (by omega)
     rw [show (((da ++ [x]).length : Nat) : Int) = (da.length : Int) + 1 by simp] at q1
     refine ⟨q, q1, ?_⟩
     rw [q2]
     have e : x = y := by omega
     simp [lexLe, e]
theorem compare_best (a b : List Int) (hl : a.length = b.length) (hb : a.length ≤ 100000) (k : Nat) (hk : a.length < k) : ∃ q : Int, slices_Compare_int_int.f k a b = some q ∧ (q > 0 ↔ ¬ lexLe a b) := by
 obtain ⟨q, q1, q2⟩ := compare_lex a b hl hb a b [] [] k rfl rfl rfl hk
 exact ⟨q, by unfold slices_Compare_int_int.f; exact q1, q2⟩
theorem fdD_range (t : Nat) : ∀ (d f : Nat), ((List.range' f d).filter fun j => t.testBit j).map (fun (j : Nat) => (j : Int)) = bitsL t f d
 | 0, _ => rfl
 | d + 1, f => by
  rw [List.range'_succ, List.filter_cons]
  simp only [bitsL]
  split
  ·rw [List.map_cons, fdD_range t d (f + 1)]
  ·exact fdD_range t d (f + 1)
theorem fdD_eq (t n : Nat) : fdD t n = bitsL t 0 n := by
 unfold fdD
 rw [List.range_eq_range']
 exact fdD_range t n 0
theorem bitsL_mem (t : Nat) (x : Int) : ∀ (d f : Nat), x ∈ bitsL t f d ↔ (f : Int) ≤ x ∧ x < f + d ∧ t.testBit x.toNat = true
 | 0, f => by
  simp only [bitsL, List.not_mem_nil, false_iff]
  rintro ⟨h1, h2, _⟩
  omega
 | d + 1, f => by
  have ih := bitsL_mem t x d (f + 1)
  simp only [bitsL]
  by_cases h : t.testBit f = true
  ·rw [if_pos h, List.mem_cons, ih]
   constructor
   ·rintro (rfl | ⟨h1, h2, h3⟩)
    ·exact ⟨by omega, by omega, by simpa using h⟩
    ·exact ⟨by omega, by omega, h3⟩
   ·rintro ⟨h1, h2, h3⟩
    by_cases e : x = f
    ·exact .inl e
    ·exact .inr ⟨by omega, by omega, h3⟩
  ·rw [if_neg h, ih]
   constructor
   ·rintro ⟨h1, h2, h3⟩
    exact ⟨by omega, by omega, h3⟩
   ·rintro ⟨h1, h2, h3⟩
    by_cases e : x = f
    ·subst e
     rw [Int.toNat_natCast] at h3
     exact absurd h3 h
    ·exact ⟨by omega, by omega, h3⟩
theorem fdK_range (t : Nat) (L : List S44) (b : Int → Bool) (n : Nat) (hb : ∀ i : Nat, i < n → b (i : Int) = t.testBit i) : ∀ (m : List S44) (f : Nat), f + m.length = n → L.drop f = m → ((List.range' f m.length).filter fun j => !t.testBit j).map (fun (j : Nat) => rd_T44 L (j : Int)) = keepL b (f : Int) m
 | [], _, _, _ => rfl
 | c :: m, f, hf, hd => by
  simp only [List.length_cons] at hf
  have ih := fdK_range t L b n hb m (f + 1) (by omega) (by rw [← List.drop_drop, hd]; rfl)
  have hrd : rd_T44 L (f : Int) = c := by
   have h1 : L = L.take f ++ c :: m := by rw [← hd, List.take_append_drop]
   have h2 : (L.take f).length = f := by
    rw [List.length_take]
    have : (L.drop f).length = m.length + 1 := by rw [hd]; simp
    rw [List.length_drop] at this
    omega
   have h3 := rdC_append (L.take f) m c
   rw [← h1, h2] at h3
   exact h3
  rw [List.length_cons, List.range'_succ, List.filter_cons]
  simp only [keepL]
  rw [hb f (by omega)]
  cases t.testBit f with
  | true => simpa using ih
  | false =>
   simp only [Bool.not_false, if_true, List.map_cons, hrd]
   rw [ih]
   simp
theorem fdK_eq (t : Nat) (l : List S44) : fdK t l l.length = keepL (bitsL t 0 l.length).contains 0 l := by
 unfold fdK
 rw [List.range_eq_range']
 have := fdK_range t l (bitsL t 0 l.length).contains l.length (fun i hi => by
  rw [Bool.eq_iff_iff, List.contains_iff_mem, bitsL_mem, Int.toNat_natCast]
  constructor
  ·exact fun h => h.2.2
  ·exact fun h => ⟨by omega, by omega, h⟩) l 0 (by omega) rfl
 exact this
theorem fdAll_known (N : Int) (l : List S44) (hP : ∀ x ∈ l, Proper N x) (hl : l.length ≤ 12) (k : Nat) (hk : 100 ≤ k) : ∀ t : Nat, ∃ best, fdAll k l t = some best ∧ Known (planeB l) l.length t best
 | 0 => ⟨none, rfl, fun s hs => by omega⟩
 | t + 1 => by
  obtain ⟨best, h1, h2⟩ := fdAll_known N l hP hl k hk t
  have hkl := keepL_len (bitsL t 0 l.length).contains l 0
  have hc : impl_crossings.f k (fdK t l l.length) = some ((pairsX (keepL (bitsL t 0 l.length).contains 0 l) : Nat) : Int) := by
   rw [fdK_eq]
   exact crossings_eq N _ (fun x hx => hP x (keepL_mem _ l 0 x hx)) (by omega) k (by omega)
  have hpl : planeB l (bitsL t 0 l.length) = true ↔ ((pairsX (keepL (bitsL t 0 l.length).contains 0 l) : Nat) : Int) = 0 := by
   unfold planeB
   rw [all_kept]
   omega
  have htake : ∀ best, fdTake k l t best = some (if planeB l (bitsL t 0 l.length) = true then some (bitsL t 0 l.length) else best) := by
   intro best
   unfold fdTake
   rw [hc, fdD_eq, Option.map_some]
   by_cases h : planeB l (bitsL t 0 l.length) = true
   ·rw [if_pos h, if_pos (hpl.1 h)]
   ·rw [if_neg h, if_neg (fun e => h (hpl.2 e))]
  have htk : Known (planeB l) l.length t best → (∀ b, best = some b → bestLe (bitsL t 0 l.length) b) → Known (planeB l) l.length (t + 1) (if planeB l (bitsL t 0 l.length) = true then some (bitsL t 0 l.length) else best) := by
   intro h hb
   by_cases hp : planeB l (bitsL t 0 l.length) = true
   ·rw [if_pos hp]; exact known_take h hp hb
   ·rw [if_neg hp]; exact known_not h hp
  simp only [fdAll, h1, Option.bind_some]
  cases best with
  | none => exact ⟨_, htake none, htk h2 (fun b hb => by cases hb)⟩
  | some b =>
   simp only [fdOne, fdD_eq]
   by_cases g1 : (bitsL t 0 l.length).length > b.length
   ·rw [if_pos g1]
    refine ⟨_, rfl, known_skip h2 (fun hb => ?_)⟩
    rcases hb with hb | ⟨hb, _⟩ <;> omega
   ·rw [if_neg g1]
    by_cases g2 : (bitsL t 0 l.length).length = b.length
    ·rw [if_pos g2]
     have hlen := fdD_len t l.length
     rw [fdD_eq] at hlen
     obtain ⟨q, q1, q2⟩ := compare_best _ _ g2 (by omega) k (by omega)
     rw [q1, Option.bind_some]
     by_cases g3 : q > 0
     ·rw [if_pos g3]
      refine ⟨_, rfl, known_skip h2 (fun hb => ?_)⟩
      rcases hb with hb | ⟨_, hb⟩
      ·omega
      ·exact q2.1 g3 hb
     ·rw [if_neg g3]
      refine ⟨_, htake _, htk h2 (fun b' hb => ?_)⟩
      cases hb
      exact .inr ⟨g2, Classical.byContradiction fun h => g3 (q2.2 h)⟩
    ·rw [if_neg g2]
     refine ⟨_, htake _, htk h2 (fun b' hb => ?_)⟩
     cases hb
     exact .inl (by omega)
theorem hitIn (D : List Int) (c : S44) (i : Int) (n : Nat) (hb : ∀ j : Int, 1 ≤ j → j < (n : Int) → D.contains j = true) : ∀ (m : List S44) (j : Int), 1 ≤ j → j + m.length = n → (rowP c i j m).all (hitB D.contains) = true
 | [], _, _, _ => rfl
 | x :: m, j, hj, hn => by
  simp only [List.length_cons] at hn
  have ih := hitIn D c i n hb m (j + 1) (by omega) (by omega)
  simp only [rowP]
  split
  ·rw [List.all_cons, ih]
   have := hb j hj (by omega)
   simp only [hitB, List.getD_cons_succ, List.getD_cons_zero, this]
   simp
  ·exact ih
theorem hitAll (D : List Int) (n : Nat) (hb : ∀ j : Int, 1 ≤ j → j < (n : Int) → D.contains j = true) : ∀ (m : List S44) (i : Int), 1 ≤ i → i + m.length = n → (allP i m).all (hitB D.contains) = true
 | [], _, _, _ => rfl
 | c :: m, i, hi, hn => by
  simp only [List.length_cons] at hn
  rw [allP, List.all_append, hitIn D c i n hb m (i + 1) (by omega) (by omega), hitAll D n hb m (i + 1) (by omega) (by omega)]
  rfl
theorem inc_sorted (n : Int) : ∀ (l : List Int) (f : Int), l.Pairwise (· < ·) → (∀ x ∈ l, f ≤ x ∧ x < n) → Inc f n l
 | [], _, _, _ => trivial
 | x :: l, f, h, hb => by
  rw [List.pairwise_cons] at h
  exact ⟨(hb x (List.mem_cons_self ..)).1, (hb x (List.mem_cons_self ..)).2, inc_sorted n l (x + 1) h.2 (fun y hy => ⟨by have := h.1 y hy; omega, (hb y (List.mem_cons_of_mem _ hy)).2⟩)⟩
theorem inc_rises (n : Int) : ∀ (l : List Int) (f : Int), Inc f n l → l.Pairwise (· < ·) ∧ ∀ x ∈ l, f ≤ x ∧ x < n
 | [], _, _ => ⟨List.Pairwise.nil, by simp⟩
 | x :: l, f, ⟨a, b, c⟩ => by
  obtain ⟨h1, h2⟩ := inc_rises n l (x + 1) c
  refine ⟨List.pairwise_cons.2 ⟨fun y hy => by have := (h2 y hy).1; omega, h1⟩, fun y hy => ?_⟩
  rcases List.mem_cons.1 hy with rfl | hy
  ·exact ⟨a, b⟩
  ·have := h2 y hy
   omega
theorem best_facts (l : List S44) (r : List Int) (h : IsBest l.length (fun D => (allP 0 l).all (hitB D.contains)) r) : r.Pairwise (· < ·) ∧ (∀ x ∈ r, 0 ≤ x ∧ x < l.length) ∧ (∀ p ∈ allP 0 l, hitB r.contains p = true) ∧ r.length ≤ (allP 0 l).length ∧ (r = [] ↔ allP 0 l = []) := by
 obtain ⟨h1, h2, h3⟩ := h
 obtain ⟨i1, i2⟩ := inc_rises l.length r 0 h1
 have hit := List.all_eq_true.1 h2
 have hle : ∀ D, Inc 0 l.length D → (allP 0 l).all (hitB D.contains) = true → r.length ≤ D.length := fun D d1 d2 => by
  have := h3 D d1 d2
  unfold bestLe at this
  omega
 have hlen : r.length ≤ (allP 0 l).length := by
  refine Nat.le_trans (hle (((List.range l.length).filter fun (i : Nat) => (allP 0 l).any fun p => p.getD 0 0 == (i : Int)).map fun (i : Nat) => (i : Int)) ?_ ?_) ?_
  ·refine inc_sorted _ _ _ ?_ (fun x hx => ?_)
   ·rw [List.pairwise_map]
    exact (List.Pairwise.filter _ List.pairwise_lt_range).imp (fun h => by omega)
   ·obtain ⟨i, hi, rfl⟩ := List.mem_map.1 hx
    have := List.mem_range.1 (List.mem_filter.1 hi).1
    omega
  ·rw [List.all_eq_true]
   intro p hp
   obtain ⟨a, b, ab, hb, e, _⟩ := (allP_mem l 0 p).1 hp
   unfold hitB
   have : (((List.range l.length).filter fun (i : Nat) => (allP 0 l).any fun p => p.getD 0 0 == (i : Int)).map fun (i : Nat) => (i : Int)).contains (p.getD 0 0) = true := by
    rw [List.contains_iff_mem, List.mem_map]
    refine ⟨a, List.mem_filter.2 ⟨List.mem_range.2 (by omega), List.any_eq_true.2 ⟨p, hp, ?_⟩⟩, ?_⟩
    ·rw [e]; simp
    ·rw [e]; simp
   rw [this, Bool.true_or]
  ·have key := nodup_le (((List.range l.length).filter fun (i : Nat) => (allP 0 l).any fun p => p.getD 0 0 == (i : Int)).map fun (i : Nat) => (i : Int)) ((allP 0 l).map fun p => p.getD 0 0) ?_ ?_
   ·rw [show ((allP 0 l).map fun p => p.getD 0 0).length = (allP 0 l).length from List.length_map _] at key
    exact key
   ·rw [List.nodup_iff_pairwise_ne, List.pairwise_map]
    exact (List.Pairwise.filter _ List.pairwise_lt_range).imp (fun h => by omega)
   ·intro x hx
    obtain ⟨i, hi, rfl⟩ := List.mem_map.1 hx
    obtain ⟨p, hp, e⟩ := List.any_eq_true.1 (List.mem_filter.1 hi).2
    exact List.mem_map.2 ⟨p, hp, by simpa using e⟩
 refine ⟨i1, i2, hit, hlen, ⟨fun e => ?_, fun e => ?_⟩⟩
 ·subst e
  apply List.eq_nil_iff_forall_not_mem.2
  intro p hp
  have := hit p hp
  simp [hitB] at this
 ·rw [e] at hlen
  exact List.length_eq_zero_iff.1 (by simpa using hlen)
def isCh (n a b : Int) : Prop := 0 ≤ a ∧ a < b ∧ b < n
instance (n a b : Int) : Decidable (isCh n a b) := by unfold isCh; infer_instance
theorem srIs_eq (n a b : Int) (hn : 3 ≤ n ∧ n ≤ 60) : spec_srIs.f n a b = some (decide (isCh n a b)) := by
 unfold spec_srIs.f
 rw [wrap64_id (by omega) (by omega), l1In_eq]
 simp only [Option.bind_some]
 by_cases h : 0 ≤ a ∧ a ≤ n - 1
 ·rw [if_pos (decide_eq_true h), l1In_eq, wrap64_id (by omega) (by omega)]
  simp only [Option.bind_some]
  refine congrArg some (decide_eq_decide.2 ?_)
  unfold isCh
  omega
 ·rw [if_neg (by simpa using h)]
  refine congrArg some (decide_eq_false ?_).symm
  unfold isCh
  omega
theorem implIsChord_eq (n a b : Int) : impl_isChord.f n a b = some (decide (isCh n a b)) := by
 unfold impl_isChord.f
 by_cases h1 : a ≥ 0
 ·rw [if_pos h1]
  by_cases h2 : a < b
  ·rw [if_pos h2]
   refine congrArg some (decide_eq_decide.2 ?_)
   unfold isCh
   omega
  ·rw [if_neg h2]
   refine congrArg some (decide_eq_false ?_).symm
   unfold isCh
   omega
 ·rw [if_neg h1]
  refine congrArg some (decide_eq_false ?_).symm
  unfold isCh
  omega
theorem compare_eq (a b : Int) : cmp_Compare_int.f a b = some (if a < b then -1 else if a > b then 1 else 0) := by
 unfold cmp_Compare_int.f cmp_isNaN_int.f
 simp
 split
 ·rfl
 ·split <;> rfl
theorem compareChords_eq (x y : S44) (k : Nat) (hk : 4 ≤ k) : ∃ r : Int, impl_compareChords.f k x.f0 x.f1 y.f0 y.f1 = some r ∧ (r ≥ 0 ↔ ¬ cLt x y = true) := by
 unfold impl_compareChords.f
 simp only [compare_eq, Option.bind_some]
 obtain ⟨k, rfl⟩ : ∃ t, k = t + 4 := ⟨k - 4, by omega⟩
 have h0 : wrap64 (0 + 1) = 1 := wrap64_id (by omega) (by omega)
 have h1 : wrap64 (1 + 1) = 2 := wrap64_id (by omega) (by omega)
 simp only [cmp_Or_int.f, cmp_Or_int.l0, List.length_cons, List.length_nil, h0, h1, rd, cLt_iff]
 by_cases c0 : x.f0 < y.f0
 ·simp [c0]
 ·by_cases c1 : x.f0 > y.f0
  ·simp [c0, c1]; omega
  ·have e : x.f0 = y.f0 := by omega
   by_cases d0 : x.f1 < y.f1
   ·simp [e, d0]
   ·by_cases d1 : x.f1 > y.f1
    ·simp [e, d0, d1]
    ·simp [e, d0, d1]
def isChB (n : Int) (c : S44) : Bool := decide (isCh n c.f0 c.f1)
def okFrom (n : Int) : Option S44 → List S44 → Bool
 | _, [] => true
 | none, c :: l => isChB n c && okFrom n (some c) l
 | some p, c :: l => isChB n c && (cLt p c && okFrom n (some c) l)
theorem okFrom_spec (n : Int) : ∀ (l : List S44) (p : Option S44), okFrom n p l = true → Strict l ∧ (∀ c ∈ l, Proper n c) ∧ ∀ q, p = some q → ∀ c ∈ l, cLt q c = true
 | [], p, _ => ⟨by simp [Strict], by simp, by simp⟩
 | c :: l, p, h => by
  have h1 : isChB n c = true ∧ okFrom n (some c) l = true ∧ ∀ q, p = some q → cLt q c = true := by
   cases p with
   | none => simp only [okFrom, Bool.and_eq_true] at h; exact ⟨h.1, h.2, by simp⟩
   | some q => simp only [okFrom, Bool.and_eq_true] at h; exact ⟨h.1, h.2.2, fun q' e => by cases e; exact h.2.1⟩
  obtain ⟨a, b, c1⟩ := okFrom_spec n l (some c) h1.2.1
  have c2 := c1 c rfl
  refine ⟨?_, ?_, ?_⟩
  ·unfold Strict at a ⊢; rw [List.pairwise_cons]; exact ⟨c2, a⟩
  ·intro d hd
   rcases List.mem_cons.1 hd with e | e
   ·subst e; exact (of_decide_eq_true h1.1 : isCh n d.f0 d.f1)
   ·exact b d e
  ·intro q e d hd
   have h3 := h1.2.2 q e
   rcases List.mem_cons.1 hd with e | e
   ·subst e; exact h3
   ·have h4 := c2 d e
    rw [cLt_iff] at h3 h4 ⊢
    omega
theorem okFrom_none (n : Int) (c : S44) (m : List S44) : okFrom n none (c :: m) = (isChB n c && okFrom n (some c) m) := rfl
theorem okFrom_some (n : Int) (p c : S44) (m : List S44) : okFrom n (some p) (c :: m) = (isChB n c && (cLt p c && okFrom n (some c) m)) := rfl
def lastO (pre : List S44) : Option S44 := pre.getLast?
theorem rd_last (pre m : List S44) (p : S44) : rd_T44 ((pre ++ [p]) ++ m) ((pre.length : Int) + 1 - 1) = p := by
 rw [show (pre.length : Int) + 1 - 1 = pre.length by omega, List.append_assoc]
 exact rdC_append pre m p
theorem cdGood_loop (n : Int) (hn : 3 ≤ n ∧ n ≤ 60) (m : List S44) : ∀ (k : Nat) (pre : List S44), pre.length + m.length ≤ 1000000000 → m.length < k →
  spec_cdGood.l0 k n (pre ++ m) (pre ++ m) ((pre ++ m).length : Int) pre.length = some (okFrom n (lastO pre) m) := by
 induction m with
 | nil =>
  intro k pre hl hk
  obtain ⟨k, rfl⟩ : ∃ t, k = t + 1 := ⟨k - 1, by omega⟩
  simp only [spec_cdGood.l0, List.append_nil]
  rw [if_neg (by omega)]
  simp [okFrom]
 | cons x m ih =>
  intro k pre hl hk
  obtain ⟨k, rfl⟩ : ∃ t, k = t + 1 := ⟨k - 1, by omega⟩
  simp only [List.length_cons] at hl hk
  have hlen : ((pre ++ x :: m).length : Int) = pre.length + m.length + 1 := by simp; omega
  simp only [spec_cdGood.l0]
  rw [if_pos (by omega), if_pos (by omega), if_pos (by omega), rdC_append, srIs_eq n _ _ hn]
  simp only [Option.bind_some]
  have IH := ih k (pre ++ [x]) (by simp; omega) (by omega)
  simp only [List.append_assoc, List.cons_append, List.nil_append] at IH
  have hpl : (((pre ++ [x]).length : Nat) : Int) = (pre.length : Int) + 1 := by simp
  have hla : lastO (pre ++ [x]) = some x := by unfold lastO; simp
  rw [hpl, hla] at IH
  by_cases hc : isCh n x.f0 x.f1
  ·have hcB : isChB n x = true := decide_eq_true hc
   rw [if_pos (decide_eq_true hc)]
   rcases List.eq_nil_or_concat pre with e | ⟨q, p, e⟩
   ·subst e
    rw [if_neg (by simp)]
    rw [wrap64_id (by omega) (by omega), IH]
    have e1 : lastO ([] : List S44) = none := rfl
    rw [e1, okFrom_none, hcB, Bool.true_and]
   ·rw [List.concat_eq_append] at e
    subst e
    have hql : (((q ++ [p]).length : Nat) : Int) = (q.length : Int) + 1 := by simp
    have hla2 : lastO (q ++ [p]) = some p := by unfold lastO; simp
    rw [if_pos (by omega), wrap64_id (by omega) (by omega), if_pos (by omega), if_pos (by omega), hql, rd_last, srLess_eq]
    simp only [Option.bind_some]
    have e0 : (⟨x.f0, x.f1⟩ : S44) = x := rfl
    have e1 : (⟨p.f0, p.f1⟩ : S44) = p := rfl
    rw [e0, e1, hla2, okFrom_some, hcB, Bool.true_and]
    rw [wrap64_id (by omega) (by omega)]
    rw [hql] at IH
    by_cases hp : cLt p x = true
    ·rw [if_pos hp, IH, hp, Bool.true_and]
    ·rw [if_neg hp]
     simp [hp]
  ·have hcB : isChB n x = false := decide_eq_false hc
   rw [if_neg (by simpa using hc)]
   cases hlo : lastO pre with
   | none => rw [okFrom_none, hcB]; rfl
   | some p => rw [okFrom_some, hcB]; rfl
def goodB (n : Int) (l : List S44) : Bool := decide (3 ≤ n ∧ n ≤ 60) && (decide (l.length ≤ 40) && okFrom n none l)
theorem cdGood_eq (n : Int) (l : List S44) (hl : l.length ≤ 1000000000) (k : Nat) (hk : l.length + 1 < k) : spec_cdGood.f k n l = some (goodB n l) := by
 unfold spec_cdGood.f goodB
 rw [srPoints_eq]
 obtain ⟨k, rfl⟩ : ∃ t, k = t + 1 := ⟨k - 1, by omega⟩
 simp only [Option.bind_some, spec_cdGood.j0]
 by_cases h : 3 ≤ n ∧ n ≤ 60
 ·rw [if_pos (decide_eq_true h), decide_eq_true h, Bool.true_and]
  by_cases h2 : l.length ≤ 40
  ·rw [if_neg (by simp; omega), decide_eq_true h2, Bool.true_and]
   exact cdGood_loop n h l k [] (by simpa using hl) (by omega)
  ·rw [if_pos (by simp; omega), decide_eq_false h2, Bool.false_and]
 ·rw [if_neg (by simpa using h), decide_eq_false h]
  rfl
theorem areChords_loop (n : Int) (hn : 3 ≤ n ∧ n ≤ 60) (m : List S44) : ∀ (k : Nat) (pre : List S44), pre.length + m.length ≤ 1000000000 → m.length + 4 < k →
  impl_AreChords.l0 k n (pre ++ m) (pre ++ m) ((pre ++ m).length : Int) pre.length = some (okFrom n (lastO pre) m && decide (pre.length + m.length ≤ 40)) := by
 induction m with
 | nil =>
  intro k pre hl hk
  obtain ⟨k, rfl⟩ : ∃ t, k = t + 1 := ⟨k - 1, by omega⟩
  simp only [impl_AreChords.l0, List.append_nil]
  rw [if_neg (by omega)]
  simp only [okFrom, Bool.true_and, List.length_nil, Nat.add_zero]
  exact congrArg some (decide_eq_decide.2 (by omega))
 | cons x m ih =>
  intro k pre hl hk
  obtain ⟨k, rfl⟩ : ∃ t, k = t + 1 := ⟨k - 1, by omega⟩
  simp only [List.length_cons] at hl hk
  have hlen : ((pre ++ x :: m).length : Int) = pre.length + m.length + 1 := by simp; omega
  simp only [impl_AreChords.l0]
  rw [if_pos (by omega), if_pos (by omega), if_pos (by omega), rdC_append, implIsChord_eq]
  simp only [Option.bind_some]
  have IH := ih k (pre ++ [x]) (by simp; omega) (by omega)
  simp only [List.append_assoc, List.cons_append, List.nil_append] at IH
  have hpl : (((pre ++ [x]).length : Nat) : Int) = (pre.length : Int) + 1 := by simp
  have hpn : (pre ++ [x]).length + m.length = pre.length + (x :: m).length := by simp; omega
  have hla : lastO (pre ++ [x]) = some x := by unfold lastO; simp
  rw [hpl, hla, hpn] at IH
  by_cases hc : isCh n x.f0 x.f1
  ·have hcB : isChB n x = true := decide_eq_true hc
   rw [if_pos (decide_eq_true hc)]
   rcases List.eq_nil_or_concat pre with e | ⟨q, p, e⟩
   ·subst e
    rw [if_neg (by simp)]
    rw [wrap64_id (by omega) (by omega), IH]
    have e1 : lastO ([] : List S44) = none := rfl
    rw [e1, okFrom_none, hcB, Bool.true_and]
   ·rw [List.concat_eq_append] at e
    subst e
    have hql : (((q ++ [p]).length : Nat) : Int) = (q.length : Int) + 1 := by simp
    have hla2 : lastO (q ++ [p]) = some p := by unfold lastO; simp
    rw [if_pos (by omega), wrap64_id (by omega) (by omega), if_pos (by omega), if_pos (by omega), hql, rd_last]
    obtain ⟨r, hr1, hr2⟩ := compareChords_eq p x k (by omega)
    rw [hr1]
    simp only [Option.bind_some]
    rw [hla2, okFrom_some, hcB, Bool.true_and]
    rw [wrap64_id (by omega) (by omega)]
    rw [hql] at IH
    by_cases hp : cLt p x = true
    ·rw [if_neg (fun z => hr2.1 z hp), IH, hp, Bool.true_and]
    ·rw [if_pos (hr2.2 hp)]
     simp [hp]
  ·have hcB : isChB n x = false := decide_eq_false hc
   rw [if_neg (by simpa using hc)]
   cases hlo : lastO pre with
   | none => rw [okFrom_none, hcB]; rfl
   | some p => rw [okFrom_some, hcB]; rfl
theorem areChords_eq (n : Int) (l : List S44) (hl : l.length ≤ 1000000000) (k : Nat) (hk : l.length + 4 < k) : impl_AreChords.f k n l = some (goodB n l) := by
 unfold impl_AreChords.f goodB
 rw [within_eq]
 simp only [Option.bind_some]
 by_cases h : 3 ≤ n ∧ n ≤ 60
 ·rw [if_pos (decide_eq_true h), decide_eq_true h, Bool.true_and]
  have := areChords_loop n h l k [] (by simpa using hl) hk
  simp only [List.nil_append, List.length_nil, Nat.zero_add] at this
  rw [Bool.and_comm] at this
  exact this
 ·rw [if_neg (by simpa using h), decide_eq_false h]
  rfl
theorem isSet_eq (n : Int) (l : List S44) (hl : l.length ≤ 1000000000) (k : Nat) (hk : l.length + 4 < k) : impl_isSet.f k n l = some (goodB n l) := by
 unfold impl_isSet.f
 rw [isCircle_eq, areChords_eq n l hl k hk]
 simp only [Option.bind_some]
 by_cases h : 3 ≤ n ∧ n ≤ 60
 ·rw [if_pos (decide_eq_true h)]
 ·rw [if_neg (by simpa using h)]
  unfold goodB
  rw [decide_eq_false h]
  rfl
theorem good_spec (n : Int) (l : List S44) (h : goodB n l = true) : (3 ≤ n ∧ n ≤ 60) ∧ l.length ≤ 40 ∧ Strict l ∧ ∀ c ∈ l, Proper n c := by
 unfold goodB at h
 simp only [Bool.and_eq_true, decide_eq_true_eq] at h
 obtain ⟨a, b, _⟩ := okFrom_spec n l none h.2.2
 exact ⟨h.1, h.2.1, a, b⟩
theorem ordL_c (l : List S44) : ordL l = Lib.compact (l.mergeSort fun x y => !cLt y x) := rfl
theorem compactUpTo_strict (d : Array S44) (hd : ∀ i j, i < j → j < d.size → ¬ cLt d[j]! d[i]! = true) : ∀ m, m ≤ d.size →
  Strict (Lib.compactUpTo d m) ∧ (∀ x, x ∈ Lib.compactUpTo d m ↔ ∃ j, j < m ∧ d[j]! = x)
 | 0, _ => ⟨by simp [Lib.compactUpTo, Strict], by simp [Lib.compactUpTo]⟩
 | m + 1, hm => by
  obtain ⟨h1, h2⟩ := compactUpTo_strict d hd m (by omega)
  rw [Lib.compactUpTo_succ]
  by_cases hk : Lib.keeps d m = true
  ·rw [if_pos hk]
   constructor
   ·unfold Strict at h1 ⊢
    rw [List.pairwise_append]
    refine ⟨h1, by simp, ?_⟩
    intro x hx y hy
    obtain rfl : y = d[m]! := by simpa using hy
    obtain ⟨j, hj, rfl⟩ := (h2 x).1 hx
    have hne : m = 0 ∨ d[m]! ≠ d[m - 1]! := by simpa [Lib.keeps] using hk
    have hne : d[m]! ≠ d[m - 1]! := hne.resolve_left (by omega)
    have a := hd (m - 1) m (by omega) (by omega)
    have b : ¬ cLt d[m - 1]! d[j]! = true := by
     by_cases e : j = m - 1
     ·subst e; rw [cLt_iff]; omega
     ·exact hd j (m - 1) (by omega) (by omega)
    rw [cLt_iff] at a b ⊢
    have hne' : ¬ (d[m]!.f0 = d[m - 1]!.f0 ∧ d[m]!.f1 = d[m - 1]!.f1) := fun e => hne (chord_ext e.1 e.2)
    omega
   ·intro x
    rw [List.mem_append, h2]
    constructor
    ·rintro (⟨j, hj, rfl⟩ | hx)
     ·exact ⟨j, by omega, rfl⟩
     ·exact ⟨m, by omega, by simpa [eq_comm] using hx⟩
    ·rintro ⟨j, hj, rfl⟩
     by_cases e : j = m
     ·subst e; exact Or.inr (by simp)
     ·exact Or.inl ⟨j, by omega, rfl⟩
  ·rw [if_neg hk, List.append_nil]
   refine ⟨h1, fun x => ?_⟩
   rw [h2]
   have hne : ¬ (m = 0 ∨ d[m]! ≠ d[m - 1]!) := by simpa [Lib.keeps] using hk
   have e0 : m ≠ 0 := fun e => hne (Or.inl e)
   have e1 : d[m]! = d[m - 1]! := Classical.byContradiction fun e => hne (Or.inr e)
   constructor
   ·rintro ⟨j, hj, rfl⟩; exact ⟨j, by omega, rfl⟩
   ·rintro ⟨j, hj, rfl⟩
    by_cases e : j = m
    ·subst e; exact ⟨j - 1, by omega, e1.symm⟩
    ·exact ⟨j, by omega, rfl⟩
theorem ordL_strict (l : List S44) : Strict (ordL l) ∧ ∀ x, x ∈ ordL l ↔ x ∈ l := by
 have hsort : (l.mergeSort fun x y => !cLt y x).Pairwise fun x y => (!cLt y x) = true := by
  apply List.pairwise_mergeSort
  ·intro a b c h1 h2
   simp only [Bool.not_eq_true', ← Bool.not_eq_true] at h1 h2 ⊢
   rw [cLt_iff] at h1 h2 ⊢
   omega
  ·intro a b
   by_cases h : cLt b a = true
   ·have : ¬ cLt a b = true := by rw [cLt_iff] at h ⊢; omega
    simp [h, this]
   ·simp [h]
 have hmem : ∀ x, x ∈ (l.mergeSort fun x y => !cLt y x) ↔ x ∈ l := fun x => List.mem_mergeSort
 rw [ordL_c]
 generalize (l.mergeSort fun x y => !cLt y x) = z at *
 have H := compactUpTo_strict z.toArray (by
  intro i j hij hj
  have hj' : j < z.length := by simpa using hj
  have := List.pairwise_iff_getElem.1 hsort i j (by omega) hj' hij
  have e1 : z.toArray[j]! = z[j] := by simp [hj']
  have e2 : z.toArray[i]! = z[i] := by simp [show i < z.length by omega]
  rw [e1, e2]
  simpa using this) z.length (by simp)
 unfold Lib.compact
 refine ⟨H.1, fun x => ?_⟩
 rw [H.2, ← hmem]
 constructor
 ·rintro ⟨j, hj, rfl⟩; simp [hj]
 ·intro hx
  obtain ⟨j, hj, rfl⟩ := List.getElem_of_mem hx
  exact ⟨j, hj, by simp [hj]⟩
theorem putAll_ordL (l : List S44) : putAll [] l = ordL l := by
 obtain ⟨h1, h2⟩ := putAll_spec l [] (by simp [Strict])
 obtain ⟨h3, h4⟩ := ordL_strict l
 exact strict_unique _ _ h1 h3 (fun x => by rw [h2, h4]; simp)
theorem ordL_len (l : List S44) : (ordL l).length ≤ l.length := by
 rw [ordL_c]
 have := Lib.compact_length_le (l.mergeSort fun x y => !cLt y x)
 simpa using this
theorem ordered_eq (l : List S44) (h : l.length ≤ 1000) : impl_ordered.f l = some (ordL l) := by unfold impl_ordered.f; rw [if_pos h]
def turnC (n t : Int) (c : S44) : S44 := mkC ((c.f0 + t) % n) ((c.f1 + t) % n)
theorem turn_tmod (n t x : Int) (hn : 3 ≤ n ∧ n ≤ 60) (ht : 0 ≤ t ∧ t < n) (hx : 0 ≤ x ∧ x < n) : Int.tmod (wrap64 (x + t)) n = (x + t) % n := by
 rw [wrap64_id (by omega) (by omega), Int.tmod_eq_emod_of_nonneg (by omega)]
theorem turned_loop (n t : Int) (hn : 3 ≤ n ∧ n ≤ 60) (ht : 0 ≤ t ∧ t < n) (m : List S44) : ∀ (k : Nat) (pre acc : List S44), (∀ x ∈ m, Proper n x) → pre.length + m.length ≤ 1000 → acc.length = pre.length → m.length < k →
  impl_turned.l0 k n t acc (pre ++ m) ((pre ++ m).length : Int) pre.length = some (ordL (acc ++ m.map (turnC n t))) := by
 induction m with
 | nil =>
  intro k pre acc _ hl ha hk
  obtain ⟨k, rfl⟩ : ∃ t, k = t + 1 := ⟨k - 1, by omega⟩
  simp only [List.length_nil, Nat.add_zero] at hl
  simp only [impl_turned.l0, List.append_nil, List.map_nil]
  rw [if_neg (by omega), ordered_eq acc (by omega)]
  rfl
 | cons x m ih =>
  intro k pre acc hp hl ha hk
  obtain ⟨k, rfl⟩ : ∃ t, k = t + 1 := ⟨k - 1, by omega⟩
  simp only [List.length_cons] at hl hk
  have hlen : ((pre ++ x :: m).length : Int) = pre.length + m.length + 1 := by simp; omega
  simp only [impl_turned.l0, List.map_cons]
  have hx := hp x (by simp)
  have hx' := hx
  unfold Proper at hx'
  rw [if_pos (by omega), if_pos (by omega), if_pos (by omega), if_neg (by omega), rdC_append, turn_tmod n t _ hn ht (by omega), turn_tmod n t _ hn ht (by omega), implChord_eq]
  simp only [Option.bind_some]
  rw [if_pos (by omega), wrap64_id (by omega) (by omega)]
  have IH := ih k (pre ++ [x]) (acc ++ [turnC n t x]) (fun y hy => hp y (by simp [hy])) (by simp; omega) (by simp [ha]) (by omega)
  simp only [List.append_assoc, List.cons_append, List.nil_append] at IH
  have hpl : (((pre ++ [x]).length : Nat) : Int) = (pre.length : Int) + 1 := by simp
  rw [hpl] at IH
  exact IH
theorem turned_eq (n t : Int) (hn : 3 ≤ n ∧ n ≤ 60) (ht : 0 ≤ t ∧ t < n) (m : List S44) (hm : ∀ x ∈ m, Proper n x) (hl : m.length ≤ 1000) (k : Nat) (hk : m.length < k) : impl_turned.f k n m t = some (ordL (m.map (turnC n t))) := by
 unfold impl_turned.f
 have := turned_loop n t hn ht m k [] [] hm (by simpa using hl) rfl hk
 simpa using this
theorem pairsX_perm (n : Int) {l m : List S44} (h : l.Perm m) (hP : ∀ c ∈ l, Proper n c) : pairsX l = pairsX m := by
 induction h with
 | nil => rfl
 | cons x h ih =>
  have ih := ih (fun c hc => hP c (List.mem_cons_of_mem _ hc))
  unfold pairsX
  rw [ih]
  unfold countX
  rw [h.countP_eq]
 | swap x y l =>
  have e := crossB_symm n x y (hP x (by simp)) (hP y (by simp))
  simp only [pairsX, countX, List.countP_cons, e]
  omega
 | trans h1 h2 ih1 ih2 =>
  exact (ih1 hP).trans (ih2 (fun c hc => hP c (h1.mem_iff.2 hc)))
theorem pairsX_map (f : S44 → S44) : ∀ l : List S44, (∀ c ∈ l, ∀ d ∈ l, crossB (f c) (f d) = crossB c d) → pairsX (l.map f) = pairsX l
 | [], _ => rfl
 | c :: l, h => by
  have ih := pairsX_map f l (fun a ha b hb => h a (List.mem_cons_of_mem _ ha) b (List.mem_cons_of_mem _ hb))
  have hc : countX (f c) (l.map f) = countX c l := by
   unfold countX
   rw [List.countP_map]
   apply List.countP_congr
   intro d hd
   simp only [Function.comp]
   rw [h c (List.mem_cons_self ..) d (List.mem_cons_of_mem _ hd)]
  simp only [List.map_cons, pairsX, hc, ih]
theorem strict_nodup {l : List S44} (h : Strict l) : l.Nodup := by
 unfold Strict at h
 refine List.Pairwise.imp ?_ h
 intro a b hab e
 subst e
 rw [cLt_iff] at hab
 omega
theorem pairsX_move (n : Int) (f : S44 → S44) (l : List S44) (hl : Strict l) (hf : ∀ c ∈ l, Proper n (f c)) (hx : ∀ c ∈ l, ∀ d ∈ l, crossB (f c) (f d) = crossB c d) (hi : ∀ c ∈ l, ∀ d ∈ l, f c = f d → c = d) : pairsX (ordL (l.map f)) = pairsX l := by
 have hn : (l.map f).Nodup := by
  rw [List.nodup_iff_pairwise_ne, List.pairwise_map]
  refine List.Pairwise.imp_of_mem ?_ (strict_nodup hl)
  intro a b ha hb hab e
  exact hab (hi a ha b hb e)
 have hp : (ordL (l.map f)).Perm (l.map f) := (List.perm_ext_iff_of_nodup (strict_nodup (ordL_strict _).1) hn).2 (ordL_strict _).2
 rw [pairsX_perm n hp (fun c hc => by
  obtain ⟨d, hd, rfl⟩ := List.mem_map.1 (((ordL_strict _).2 c).1 hc)
  exact hf d hd), pairsX_map f l hx]
theorem move_back (f g : S44 → S44) (l : List S44) (hl : Strict l) (h : ∀ c ∈ l, g (f c) = c) : ordL ((ordL (l.map f)).map g) = l := by
 refine strict_unique _ _ (ordL_strict _).1 hl (fun x => ?_)
 rw [(ordL_strict _).2, List.mem_map]
 constructor
 ·rintro ⟨y, hy, rfl⟩
  obtain ⟨c, hc, rfl⟩ := List.mem_map.1 (((ordL_strict _).2 y).1 hy)
  rw [h c hc]
  exact hc
 ·intro hx
  exact ⟨f x, ((ordL_strict _).2 _).2 (List.mem_map.2 ⟨x, hx, rfl⟩), h x hx⟩
theorem emod_step (n x : Int) (hn : 0 < n) (hx : 0 ≤ x ∧ x < 2 * n) : (x < n ∧ x % n = x) ∨ (n ≤ x ∧ x % n = x - n) := by
 rcases Int.lt_or_le x n with c | c
 ·exact .inl ⟨c, Int.emod_eq_of_lt hx.1 c⟩
 ·refine .inr ⟨c, ?_⟩
  rw [← Int.sub_emod_right, Int.emod_eq_of_lt (by omega) (by omega)]
def moveC (f : Int → Int) (c : S44) : S44 := mkC (f c.f0) (f c.f1)
theorem moveC_vals (f : Int → Int) (c : S44) : (f c.f0 ≤ f c.f1 ∧ (moveC f c).f0 = f c.f0 ∧ (moveC f c).f1 = f c.f1) ∨ (f c.f1 ≤ f c.f0 ∧ (moveC f c).f0 = f c.f1 ∧ (moveC f c).f1 = f c.f0) := by
 have h1 : (moveC f c).f0 = mn (f c.f0) (f c.f1) := rfl
 have h2 : (moveC f c).f1 = mx (f c.f0) (f c.f1) := rfl
 rw [h1, h2]
 unfold mn mx
 split <;> split <;> omega
structure Turns (n t : Int) (f : Int → Int) : Prop where
 ht : 0 ≤ t ∧ t < n
 f : ∀ x, 0 ≤ x → x < n → (f x = x + t ∧ x + t < n) ∨ (f x = x + t - n ∧ n ≤ x + t)
structure Flips (n : Int) (f : Int → Int) : Prop where
 f : ∀ x, 0 ≤ x → x < n → (x = 0 ∧ f x = 0) ∨ (0 < x ∧ f x = n - x)
theorem turns_mod (n t : Int) (ht : 0 ≤ t ∧ t < n) : Turns n t (fun x => (x + t) % n) := ⟨ht, fun x h0 h1 => by
 rcases emod_step n (x + t) (by omega) (by omega) with ⟨a, b⟩ | ⟨a, b⟩
 ·exact .inl ⟨b, a⟩
 ·exact .inr ⟨b, a⟩⟩
theorem flips_mod (n : Int) (hn : 0 < n) : Flips n (fun x => (n - x) % n) := ⟨fun x h0 h1 => by
 rcases Int.lt_or_le 0 x with c | c
 ·exact .inr ⟨c, Int.emod_eq_of_lt (by omega) (by omega)⟩
 ·obtain rfl : x = 0 := by omega
  exact .inl ⟨rfl, by simp⟩⟩
theorem turns_proper {n t : Int} {f : Int → Int} (h : Turns n t f) {c : S44} (hc : Proper n c) : Proper n (moveC f c) := by
 have ht := h.ht
 obtain ⟨c0, c1, c2⟩ := hc
 have a := h.f c.f0 (by omega) (by omega)
 have b := h.f c.f1 (by omega) (by omega)
 have e := moveC_vals f c
 unfold Proper
 omega
theorem flips_proper {n : Int} {f : Int → Int} (h : Flips n f) {c : S44} (hc : Proper n c) : Proper n (moveC f c) := by
 obtain ⟨c0, c1, c2⟩ := hc
 have a := h.f c.f0 (by omega) (by omega)
 have b := h.f c.f1 (by omega) (by omega)
 have e := moveC_vals f c
 unfold Proper
 omega
theorem turns_cross {n t : Int} {f : Int → Int} (h : Turns n t f) {c d : S44} (hc : Proper n c) (hd : Proper n d) : crossB (moveC f c) (moveC f d) = crossB c d := by
 rw [Bool.eq_iff_iff, crossB_iff n _ _ (turns_proper h hc) (turns_proper h hd), crossB_iff n _ _ hc hd]
 have ht := h.ht
 obtain ⟨c0, c1, c2⟩ := hc
 obtain ⟨d0, d1, d2⟩ := hd
 have p := h.f c.f0 (by omega) (by omega)
 have q := h.f c.f1 (by omega) (by omega)
 have r := h.f d.f0 (by omega) (by omega)
 have s := h.f d.f1 (by omega) (by omega)
 have e1 := moveC_vals f c
 have e2 := moveC_vals f d
 generalize (moveC f c).f0 = C0 at *
 generalize (moveC f c).f1 = C1 at *
 generalize (moveC f d).f0 = D0 at *
 generalize (moveC f d).f1 = D1 at *
 rcases p with ⟨p1, p2⟩ | ⟨p1, p2⟩ <;> rcases q with ⟨q1, q2⟩ | ⟨q1, q2⟩ <;> rcases r with ⟨r1, r2⟩ | ⟨r1, r2⟩ <;> rcases s with ⟨s1, s2⟩ | ⟨s1, s2⟩ <;> rcases e1 with ⟨x1, x2, x3⟩ | ⟨x1, x2, x3⟩ <;> rcases e2 with ⟨y1, y2, y3⟩ | ⟨y1, y2, y3⟩ <;> omega
theorem flips_cross {n : Int} {f : Int → Int} (h : Flips n f) {c d : S44} (hc : Proper n c) (hd : Proper n d) : crossB (moveC f c) (moveC f d) = crossB c d := by
 rw [Bool.eq_iff_iff, crossB_iff n _ _ (flips_proper h hc) (flips_proper h hd), crossB_iff n _ _ hc hd]
 obtain ⟨c0, c1, c2⟩ := hc
 obtain ⟨d0, d1, d2⟩ := hd
 have p := h.f c.f0 (by omega) (by omega)
 have q := h.f c.f1 (by omega) (by omega)
 have r := h.f d.f0 (by omega) (by omega)
 have s := h.f d.f1 (by omega) (by omega)
 have e1 := moveC_vals f c
 have e2 := moveC_vals f d
 generalize (moveC f c).f0 = C0 at *
 generalize (moveC f c).f1 = C1 at *
 generalize (moveC f d).f0 = D0 at *
 generalize (moveC f d).f1 = D1 at *
 rcases p with ⟨p1, p2⟩ | ⟨p1, p2⟩ <;> rcases q with ⟨q1, q2⟩ | ⟨q1, q2⟩ <;> rcases r with ⟨r1, r2⟩ | ⟨r1, r2⟩ <;> rcases s with ⟨s1, s2⟩ | ⟨s1, s2⟩ <;> rcases e1 with ⟨x1, x2, x3⟩ | ⟨x1, x2, x3⟩ <;> rcases e2 with ⟨y1, y2, y3⟩ | ⟨y1, y2, y3⟩ <;> omega
theorem turns_back {n t u : Int} {f g : Int → Int} (h : Turns n t f) (k : Turns n u g) (hu : u = 0 ∧ t = 0 ∨ u = n - t) {c : S44} (hc : Proper n c) : moveC g (moveC f c) = c := by
 have ht := h.ht
 have hp := turns_proper h hc
 obtain ⟨c0, c1, c2⟩ := hc
 obtain ⟨p0, p1, p2⟩ := hp
 have p := h.f c.f0 (by omega) (by omega)
 have q := h.f c.f1 (by omega) (by omega)
 have r := k.f (moveC f c).f0 (by omega) (by omega)
 have s := k.f (moveC f c).f1 (by omega) (by omega)
 have e1 := moveC_vals f c
 have e2 := moveC_vals g (moveC f c)
 refine chord_ext ?_ ?_ <;> omega
theorem flips_back {n : Int} {f : Int → Int} (h : Flips n f) {c : S44} (hc : Proper n c) : moveC f (moveC f c) = c := by
 have hp := flips_proper h hc
 obtain ⟨c0, c1, c2⟩ := hc
 obtain ⟨p0, p1, p2⟩ := hp
 have p := h.f c.f0 (by omega) (by omega)
 have q := h.f c.f1 (by omega) (by omega)
 have r := h.f (moveC f c).f0 (by omega) (by omega)
 have s := h.f (moveC f c).f1 (by omega) (by omega)
 have e1 := moveC_vals f c
 have e2 := moveC_vals f (moveC f c)
 refine chord_ext ?_ ?_ <;> omega
def upTo (g : List Int) (a j : Nat) : List Int := ((List.range j).filter fun i => decide (g.getD i 0 = (a : Int))).map fun (i : Nat) => (i : Int)
theorem upTo_yes (g : List Int) (a j : Nat) (h : g.getD j 0 = (a : Int)) : upTo g a (j + 1) = upTo g a j ++ [(j : Int)] := by
 unfold upTo
 rw [List.range_succ, List.filter_append, List.filter_cons, if_pos (decide_eq_true h), List.map_append]
 rfl
theorem upTo_no (g : List Int) (a j : Nat) (h : ¬ g.getD j 0 = (a : Int)) : upTo g a (j + 1) = upTo g a j := by
 unfold upTo
 rw [List.range_succ, List.filter_append, List.filter_cons, if_neg (by simpa using h)]
 simp
theorem upTo_len (g : List Int) (a j : Nat) : (upTo g a j).length ≤ j := by
 unfold upTo
 rw [List.length_map]
 exact Nat.le_trans (List.length_filter_le _ _) (by simp)
theorem row_loop (n : Nat) (hn : n ≤ 1000) (g : List Int) (hg : g.length = n) (a : Nat) (ha : a < n) (out : List (List Int)) (ho : out.length ≤ 1000) (r : List (List Int) × Bool) (d : Nat) : ∀ (k j : Nat), j + d = n → d + 1 < k →
  (∀ k', k ≤ k' + d + 1 → spec_CrossingGroups.l0 k' g (out ++ (if rowG n g a = [] then [] else [rowG n g a])) (n : Int) ((a + 1 : Nat) : Int) = some r) →
  spec_CrossingGroups.l1 k g out (a : Int) (upTo g a j) (n : Int) (a : Int) g (n : Int) (j : Int) = some r := by
 induction d with
 | zero =>
  intro k j hj hk h
  obtain ⟨k, rfl⟩ : ∃ t, k = t + 1 := ⟨k - 1, by omega⟩
  obtain rfl : j = n := by omega
  have h := h k (by omega)
  simp only [spec_CrossingGroups.l1]
  rw [if_neg (by omega), wrapN a (by omega)]
  have e : upTo g a j = rowG j g a := rfl
  rw [e]
  by_cases e0 : rowG j g a = []
  ·rw [if_pos e0, List.append_nil] at h
   rw [e0, if_neg (by simp)]
   exact h
  ·have hp := List.length_pos_iff.2 e0
   rw [if_neg e0] at h
   rw [if_pos (by omega), if_pos (by omega)]
   exact h
 | succ d ih =>
  intro k j hj hk h
  obtain ⟨k, rfl⟩ : ∃ t, k = t + 1 := ⟨k - 1, by omega⟩
  have IH := ih k (j + 1) (by omega) (by omega) (fun k' hk' => h k' (by omega))
  have hlen := upTo_len g a j
  simp only [spec_CrossingGroups.l1]
  rw [if_pos (by omega), if_pos (by omega), if_pos (by omega), rd_nat g j]
  by_cases e : g.getD j 0 = (a : Int)
  ·rw [if_pos e, if_pos (by omega), wrapN j (by omega), ← upTo_yes g a j e]
   exact IH
  ·rw [if_neg e, wrapN j (by omega), ← upTo_no g a j e]
   exact IH
theorem rows_loop (n : Nat) (hn : n ≤ 1000) (g : List Int) (hg : g.length = n) (d : Nat) : ∀ (k a : Nat), a + d = n → (d + 1) * (n + 5) < k → spec_CrossingGroups.l0 k g (rowsG n g a) (n : Int) (a : Int) = some (rowsG n g n, true) := by
 induction d with
 | zero =>
  intro k a ha hk
  obtain ⟨k, rfl⟩ : ∃ t, k = t + 1 := ⟨k - 1, by omega⟩
  obtain rfl : a = n := by omega
  simp only [spec_CrossingGroups.l0]
  rw [if_neg (by omega)]
 | succ d ih =>
  intro k a ha hk
  obtain ⟨k, rfl⟩ : ∃ t, k = t + 1 := ⟨k - 1, by omega⟩
  have hmul : (d + 1 + 1) * (n + 5) = (d + 1) * (n + 5) + (n + 5) := Nat.succ_mul _ _
  have hol := rowsG_len n g a
  simp only [spec_CrossingGroups.l0]
  rw [if_pos (by omega), hg]
  exact row_loop n hn g hg a (by omega) (rowsG n g a) (by omega) _ n k 0 (by omega) (by omega) (fun k' hk' => ih k' (a + 1) (by omega) (by omega))
theorem rowG_small (n : Nat) (g : List Int) (a : Nat) : (rowG n g a).length ≤ n := upTo_len g a n
theorem rowsG_small (n : Nat) (g : List Int) : ∀ m, ∀ r ∈ rowsG n g m, r.length ≤ n
 | 0, r, h => by simp [rowsG] at h
 | m + 1, r, h => by
  rw [rowsG, List.mem_append] at h
  rcases h with h | h
  ·exact rowsG_small n g m r h
  ·split at h
   ·simp at h
   ·simp at h
    rw [h]
    exact rowG_small n g m
def PairIn (n : Nat) (p : List Int) : Prop := ∃ i j : Nat, p = [(i : Int), (j : Int)] ∧ i < n ∧ j < n
theorem rowP_in (c : S44) (n i : Nat) (hi : i < n) : ∀ (m : List S44) (j : Nat), j + m.length ≤ n → ∀ p ∈ rowP c (i : Int) (j : Int) m, PairIn n p
 | [], _, _, p, h => by simp [rowP] at h
 | x :: m, j, hj, p, h => by
  simp only [List.length_cons] at hj
  have ih := rowP_in c n i hi m (j + 1) (by omega)
  rw [show (((j + 1 : Nat)) : Int) = (j : Int) + 1 by omega] at ih
  simp only [rowP] at h
  split at h
  ·rcases List.mem_cons.1 h with rfl | h
   ·exact ⟨i, j, rfl, hi, by omega⟩
   ·exact ih p h
  ·exact ih p h
theorem allP_in (n : Nat) : ∀ (m : List S44) (i : Nat), i + m.length ≤ n → ∀ p ∈ allP (i : Int) m, PairIn n p
 | [], _, _, p, h => by simp [allP] at h
 | c :: m, i, hi, p, h => by
  simp only [List.length_cons] at hi
  rw [allP, List.mem_append] at h
  rw [show (i : Int) + 1 = ((i + 1 : Nat) : Int) by omega] at h
  rcases h with h | h
  ·exact rowP_in c n i (by omega) m (i + 1) (by omega) p h
  ·exact allP_in n m (i + 1) (by omega) p h
theorem rdLLs (done rest : List (List Int)) (x : List Int) : rd_L3 (done ++ x :: rest) (done.length : Int) = x := by
 unfold rd_L3
 simp
def sameP (F : List Int) (p : List Int) : Bool := decide (F.getD (p.getD 0 0).toNat 0 % 2 = F.getD (p.getD 1 0).toNat 0 % 2)
theorem side_pairs (n : Nat) (F : List Int) (hF : F.length = n) (hF0 : ∀ i, i < n → 0 ≤ F.getD i 0) (ps : List (List Int)) (hps : ∀ p ∈ ps, PairIn n p) (hl : ps.length ≤ 100000) (rest : List (List Int)) : ∀ (done : List (List Int)) (k : Nat) (r : Option (ByteArray × Bool)), done ++ rest = ps → rest.length < k →
  (rest.any (sameP F) = true → r = some (⟨#[]⟩, false)) → (rest.any (sameP F) = false → ∀ k', k ≤ k' + rest.length + 1 → spec_SidesOfChords.l1 k' ⟨#[]⟩ F (F.length : Int) 0 = r) →
  spec_SidesOfChords.l0 k F ps (ps.length : Int) (done.length : Int) = r := by
 induction rest with
 | nil =>
  intro done k r e hk h1 h2
  obtain ⟨k, rfl⟩ : ∃ t, k = t + 1 := ⟨k - 1, by omega⟩
  rw [List.append_nil] at e
  subst e
  have h2 := h2 rfl k (by simp)
  simp only [spec_SidesOfChords.l0]
  rw [if_neg (by omega)]
  exact h2
 | cons p rest ih =>
  intro done k r e hk h1 h2
  obtain ⟨k, rfl⟩ : ∃ t, k = t + 1 := ⟨k - 1, by omega⟩
  simp only [List.length_cons] at hk h2
  have hlr : ps.length = done.length + rest.length + 1 := by rw [← e]; simp; omega
  have hrd : rd_L3 ps (done.length : Int) = p := by rw [← e]; exact rdLLs done rest p
  obtain ⟨i, j, rfl, hi, hj⟩ := hps p (by rw [← e]; simp)
  have r0 : rd [(i : Int), (j : Int)] 0 = (i : Int) := rfl
  have r1 : rd [(i : Int), (j : Int)] 1 = (j : Int) := rfl
  have hfi := hF0 i hi
  have hfj := hF0 j hj
  have hs : sameP F [(i : Int), (j : Int)] = decide (F.getD i 0 % 2 = F.getD j 0 % 2) := rfl
  simp only [spec_SidesOfChords.l0]
  rw [hrd, if_pos (by omega), if_pos (by omega), if_pos (by omega), if_pos (by simp), r0, r1, if_pos (by omega), if_pos (by omega), if_pos (by simp), if_pos (by omega), if_pos (by omega), rd_nat F i, rd_nat F j, Int.tmod_eq_emod_of_nonneg hfi, Int.tmod_eq_emod_of_nonneg hfj, wrap64_id (x := (done.length : Int) + 1) (by omega) (by omega)]
  rw [List.any_cons, hs] at h1 h2
  by_cases h : F.getD i 0 % 2 = F.getD j 0 % 2
  ·rw [if_pos h]
   rw [decide_eq_true h] at h1
   exact (h1 rfl).symm
  ·rw [if_neg h]
   rw [decide_eq_false h, Bool.false_or] at h1 h2
   have IH := ih (done ++ [[(i : Int), (j : Int)]]) k r (by simpa using e) (by omega) h1 (fun hn k' hk' => h2 hn k' (by omega))
   rw [show (((done ++ [[(i : Int), (j : Int)]]).length : Nat) : Int) = (done.length : Int) + 1 by simp] at IH
   exact IH
def sideS (E : List Bool) (i : Nat) : ByteArray := ⟨((E.take i).map fun b => if b = true then (105 : UInt8) else 111).toArray⟩
theorem sideS_succ (E : List Bool) (i : Nat) (hi : i < E.length) : sideS E (i + 1) = sideS E i ++ (⟨#[if E.getD i false = true then 105 else 111]⟩ : ByteArray) := by
 have e : E.take (i + 1) = E.take i ++ [E[i]] := List.take_succ_eq_append_getElem hi
 have e2 : E.getD i false = E[i] := by rw [List.getD_eq_getElem?_getD, List.getElem?_eq_getElem hi, Option.getD_some]
 unfold sideS
 rw [e, e2, List.map_append]
 apply ByteArray.ext
 simp
theorem sideS_size (E : List Bool) (i : Nat) : (sideS E i).size ≤ i := by
 unfold sideS
 simp only [ByteArray.size, List.size_toArray, List.length_map, List.length_take]
 omega
theorem side_bytes (n : Nat) (F : List Int) (E : List Bool) (hF : F.length = n) (hE : E.length = n) (hn : n ≤ 1000) (hF0 : ∀ i, i < n → 0 ≤ F.getD i 0) (hFE : ∀ i, i < n → E.getD i false = decide (F.getD i 0 % 2 = 0)) (d : Nat) : ∀ (k i : Nat), i + d = n → d < k →
  spec_SidesOfChords.l1 k (sideS E i) F (n : Int) (i : Int) = some (sideS E n, true) := by
 induction d with
 | zero =>
  intro k i hi hk
  obtain ⟨k, rfl⟩ : ∃ t, k = t + 1 := ⟨k - 1, by omega⟩
  obtain rfl : i = n := by omega
  simp only [spec_SidesOfChords.l1]
  rw [if_neg (by omega)]
 | succ d ih =>
  intro k i hi hk
  obtain ⟨k, rfl⟩ : ∃ t, k = t + 1 := ⟨k - 1, by omega⟩
  have IH := ih k (i + 1) (by omega) (by omega)
  have hsz := sideS_size E i
  have h1 := sideS_succ E i (by omega)
  have hf := hF0 i (by omega)
  have he := hFE i (by omega)
  simp only [spec_SidesOfChords.l1]
  rw [if_pos (by omega), if_pos (by omega), if_pos (by omega), rd_nat F i, Int.tmod_eq_emod_of_nonneg hf, wrap64_id (x := (i : Int) + 1) (by omega) (by omega)]
  rw [he] at h1
  by_cases h : F.getD i 0 % 2 = 0
  ·rw [if_pos h, if_pos (by omega)]
   rw [decide_eq_true h, if_pos rfl] at h1
   rw [← h1]
   exact IH
  ·rw [if_neg h, if_pos (by omega)]
   rw [decide_eq_false h, if_neg (by simp)] at h1
   rw [← h1]
   exact IH
theorem sideS_nums (E : List Bool) : strOfNums (sideL E) = sideS E E.length := by
 apply ByteArray.ext
 apply Array.toList_inj.1
 rw [strOfNums_data]
 unfold sideL sideS
 rw [List.take_length, List.map_map]
 apply List.map_congr_left
 intro b _
 cases b <;> rfl
theorem same_ev (n : Nat) (F : List Int) (E : List Bool) (hFE : ∀ i, i < n → E.getD i false = decide (F.getD i 0 % 2 = 0)) (hF0 : ∀ i, i < n → 0 ≤ F.getD i 0) (p : List Int) (hp : PairIn n p) : evP E p = sameP F p := by
 obtain ⟨i, j, rfl, hi, hj⟩ := hp
 have r0 : rd [(i : Int), (j : Int)] 0 = (i : Int) := rfl
 have r1 : rd [(i : Int), (j : Int)] 1 = (j : Int) := rfl
 have hs : sameP F [(i : Int), (j : Int)] = decide (F.getD i 0 % 2 = F.getD j 0 % 2) := rfl
 unfold evP
 rw [r0, r1, rdOf_nat E i, rdOf_nat E j, hFE i hi, hFE j hj, hs]
 have a := hF0 i hi
 have b := hF0 j hj
 by_cases h1 : F.getD i 0 % 2 = 0 <;> by_cases h2 : F.getD j 0 % 2 = 0
 ·rw [decide_eq_true h1, decide_eq_true h2, decide_eq_true (by omega)]; rfl
 ·rw [decide_eq_true h1, decide_eq_false h2, decide_eq_false (by omega)]; rfl
 ·rw [decide_eq_false h1, decide_eq_true h2, decide_eq_false (by omega)]; rfl
 ·rw [decide_eq_false h1, decide_eq_false h2, decide_eq_true (by omega)]; rfl
theorem any_same (n : Nat) (F : List Int) (E : List Bool) (hFE : ∀ i, i < n → E.getD i false = decide (F.getD i 0 % 2 = 0)) (hF0 : ∀ i, i < n → 0 ≤ F.getD i 0) : ∀ (ps : List (List Int)), (∀ p ∈ ps, PairIn n p) → ps.any (evP E) = ps.any (sameP F)
 | [], _ => rfl
 | p :: ps, h => by
  rw [List.any_cons, List.any_cons, same_ev n F E hFE hF0 p (h p (by simp)), any_same n F E hFE hF0 ps (fun q hq => h q (by simp [hq]))]
theorem inc_rest : ∀ (d : Nat) (f n : Int), f + d = n → Inc f n ((List.range' f.toNat d).map fun (j : Nat) => (j : Int)) ∨ f < 0
 | 0, f, n, h => .inl trivial
 | d + 1, f, n, h => by
  by_cases h0 : f < 0
  ·exact .inr h0
  ·left
   rw [List.range'_succ, List.map_cons]
   refine ⟨by omega, by omega, ?_⟩
   have := inc_rest d (f + 1) n (by omega)
   rw [show ((f.toNat : Nat) : Int) = f by omega]
   rw [show (f + 1).toNat = f.toNat + 1 by omega] at this
   exact this.resolve_right (by omega)
theorem drops_found (l : List S44) (hl : 0 < l.length) : ∃ r, dfsL (planeB l) (l.length - 1) l.length [] 0 = some r := by
 have hi : Inc 0 (l.length : Int) ((List.range' 1 (l.length - 1)).map fun (j : Nat) => (j : Int)) := by
  have h := inc_rest (l.length - 1) 1 (l.length : Int) (by omega)
  exact (h.resolve_right (by omega)).mono (by omega)
 refine dfsL_some (planeB l) l.length (l.length - 1) _ hi (by simp) ?_
 unfold planeB
 cases l with
 | nil => simp at hl
 | cons c m =>
  rw [allP, List.all_append]
  have hb : ∀ j : Int, 1 ≤ j → j < ((c :: m).length : Int) → ((List.range' 1 ((c :: m).length - 1)).map fun (j : Nat) => (j : Int)).contains j = true := by
   intro j h1 h2
   rw [List.contains_iff_mem, List.mem_map]
   exact ⟨j.toNat, List.mem_range'_1.2 (by omega), by omega⟩
  have h := hitIn _ c 0 (c :: m).length hb m 1 (by omega) (by simp; omega)
  have h' := hitAll _ (c :: m).length hb m 1 (by omega) (by simp; omega)
  simp only [Int.zero_add]
  rw [h, h']
  rfl
theorem specDrops_loop (l : List S44) (hl : l.length ≤ 12) (m : Nat) (r : List Int) (hr : dfsL (planeB l) m l.length [] 0 = some r) (hno : ∀ j, j < m → dfsL (planeB l) j l.length [] 0 = none) (hm : m < l.length) (d : Nat) : ∀ (k i : Nat), i + d = m → 6000 + d < k →
  spec_FewestDrops.l0 k l (i : Int) = some (r, true) := by
 induction d with
 | zero =>
  intro k i hi hk
  obtain ⟨k, rfl⟩ : ∃ t, k = t + 1 := ⟨k - 1, by omega⟩
  obtain rfl : i = m := by omega
  have c := cdDrops_eq l (by omega) i l.length [] 0 k (by omega) (by omega) (by simp; omega) (by omega)
  simp only [spec_FewestDrops.l0]
  rw [if_pos (by omega), c, hr, Option.bind_some]
  rfl
 | succ d ih =>
  intro k i hi hk
  obtain ⟨k, rfl⟩ : ∃ t, k = t + 1 := ⟨k - 1, by omega⟩
  have c := cdDrops_eq l (by omega) i l.length [] 0 k (by omega) (by omega) (by simp; omega) (by omega)
  have IH := ih k (i + 1) (by omega) (by omega)
  simp only [spec_FewestDrops.l0]
  rw [if_pos (by omega), c, hno i (by omega), Option.bind_some]
  simp only [told, Bool.false_eq_true, if_false]
  rw [wrap64_id (x := (i : Int) + 1) (by omega) (by omega)]
  exact IH
theorem least_of (P : Nat → Prop) (n : Nat) (hn : P n) : ∃ m, m ≤ n ∧ P m ∧ ∀ i, i < m → ¬ P i := by
 induction n using Nat.strongRecOn with
 | _ n ih =>
  by_cases h : ∃ i, i < n ∧ P i
  ·obtain ⟨i, hi, hP⟩ := h
   obtain ⟨m, a, b, c⟩ := ih i hi hP
   exact ⟨m, by omega, b, c⟩
  ·exact ⟨n, Nat.le_refl _, hn, fun i hlt hP => h ⟨i, hlt, hP⟩⟩
theorem fewestDrops_both (n : Int) (l : List S44) (hl : l.length ≤ 1048576) : ∃ r : List Int × Bool, r.1.length ≤ 100 ∧ r.2 = decide (goodB n l = true ∧ l.length ≤ 12) ∧ (r.2 = true → IsBest l.length (planeB l) r.1) ∧ ∀ k, l.length + 10000 ≤ k → spec_FewestDrops.f k n l = some r ∧ impl_FewestDrops.f k n l = some r := by
 by_cases h : goodB n l = true ∧ l.length ≤ 12
 ·obtain ⟨hg, h12⟩ := h
  obtain ⟨h1, h2, h3, h4⟩ := good_spec n l hg
  have main : ∃ r : List Int, r.length ≤ 100 ∧ (∀ k, 8000 ≤ k → spec_FewestDrops.l0 k l 0 = some (r, true)) ∧ IsBest l.length (planeB l) r := by
   by_cases h0 : 0 < l.length
   ·obtain ⟨r0, hr0⟩ := drops_found l h0
    obtain ⟨m, m1, ⟨r, m2⟩, m3⟩ := least_of (fun m => ∃ r, dfsL (planeB l) m l.length [] 0 = some r) (l.length - 1) ⟨r0, hr0⟩
    have hno : ∀ j, j < m → dfsL (planeB l) j l.length [] 0 = none := by
     intro j hj
     cases e : dfsL (planeB l) j l.length [] 0 with
     | none => rfl
     | some x => exact absurd ⟨x, e⟩ (m3 j hj)
    have hb := dfsL_best (planeB l) l.length m r m2 hno
    have hlen := inc_len hb.1 (by omega)
    exact ⟨r, by omega, fun k hk => specDrops_loop l h12 m r m2 hno (by omega) m k 0 (by omega) (by omega), hb⟩
   ·obtain rfl : l = [] := List.length_eq_zero_iff.1 (by omega)
    refine ⟨[], by simp, fun k hk => ?_, trivial, rfl, fun D hD _ => ?_⟩
    ·obtain ⟨k, rfl⟩ : ∃ t, k = t + 1 := ⟨k - 1, by omega⟩
     simp only [spec_FewestDrops.l0]
     rw [if_neg (by simp)]
    ·match D, hD with
     | [], _ => exact bestLe_refl _
     | x :: D, hD => exact absurd hD.2.1 (by have := hD.1; simp; omega)
  obtain ⟨r, r1, r2, r3⟩ := main
  refine ⟨(r, true), r1, (decide_eq_true ⟨hg, h12⟩).symm, fun _ => r3, fun k hk => ?_⟩
  obtain ⟨best, b1, b2⟩ := fdAll_known n l h4 h12 k (by omega) (2 ^ l.length)
  have hbest : best = some r := by
   cases best with
   | none =>
    obtain ⟨s, s1, s2⟩ := bitsL_all l.length r r3.1
    exact absurd (by rw [s2]; exact r3.2.1) (b2 s s1)
   | some b => rw [isBest_unique (known_end b2) r3]
  obtain ⟨K, hK⟩ : ∃ K, k = K + 1 := ⟨k - 1, by omega⟩
  constructor
  ·unfold spec_FewestDrops.f
   rw [cdGood_eq n l (by omega) k (by omega), Option.bind_some, if_pos hg, hK]
   simp only [spec_FewestDrops.j0]
   rw [decide_eq_false (by omega), if_neg (by simp)]
   exact r2 K (by omega)
  ·unfold impl_FewestDrops.f
   rw [isSet_eq n l (by omega) k (by omega), Option.bind_some, if_pos ⟨hg, h12⟩, b1, hbest]
   rfl
 ·refine ⟨([], false), by simp, (decide_eq_false h).symm, fun x => absurd x (by simp), fun k hk => ?_⟩
  obtain ⟨K, hK⟩ : ∃ K, k = K + 1 := ⟨k - 1, by omega⟩
  constructor
  ·unfold spec_FewestDrops.f
   rw [cdGood_eq n l (by omega) k (by omega), Option.bind_some, hK]
   by_cases hg : goodB n l = true
   ·rw [if_pos hg, decide_eq_true (by have : ¬ l.length ≤ 12 := fun e => h ⟨hg, e⟩; omega)]
    simp only [spec_FewestDrops.j0, if_true]
   ·rw [if_neg hg]
    simp only [spec_FewestDrops.j0, if_true]
  ·unfold impl_FewestDrops.f
   rw [isSet_eq n l (by omega) k (by omega), Option.bind_some, if_neg h]
def Best (pre : List Int) (b m : Int) : Prop := ∃ j : Nat, b = j ∧ pre[j]? = some m ∧ (∀ (i : Nat) (v : Int), pre[i]? = some v → v ≤ m) ∧ ∀ (i : Nat) (v : Int), i < j → pre[i]? = some v → v ≠ m
theorem best_more {pre : List Int} {b m x : Int} (h : Best pre b m) (hx : x > m) : Best (pre ++ [x]) pre.length x := by
 obtain ⟨j, rfl, h1, h2, h3⟩ := h
 refine ⟨pre.length, rfl, by simp, ?_, ?_⟩
 ·intro i v hv
  rw [List.getElem?_append] at hv
  split at hv
  ·have := h2 i v hv; omega
  ·rename_i hi
   obtain ⟨k, hk⟩ : ∃ k, i - pre.length = k := ⟨_, rfl⟩
   rw [hk] at hv
   cases k with
   | zero => simp at hv; omega
   | succ k => simp at hv
 ·intro i v hi hv
  rw [List.getElem?_append_left hi] at hv
  have := h2 i v hv
  omega
theorem best_less {pre : List Int} {b m x : Int} (h : Best pre b m) (hx : ¬ x > m) : Best (pre ++ [x]) b m := by
 obtain ⟨j, rfl, h1, h2, h3⟩ := h
 have hj : j < pre.length := (List.getElem?_eq_some_iff.1 h1).1
 refine ⟨j, rfl, by rw [List.getElem?_append_left hj]; exact h1, ?_, ?_⟩
 ·intro i v hv
  rw [List.getElem?_append] at hv
  split at hv
  ·exact h2 i v hv
  ·rename_i hi
   obtain ⟨k, hk⟩ : ∃ k, i - pre.length = k := ⟨_, rfl⟩
   rw [hk] at hv
   cases k with
   | zero => simp at hv; omega
   | succ k => simp at hv
 ·intro i v hi hv
  rw [List.getElem?_append_left (by omega)] at hv
  exact h3 i v hi hv
theorem best_first (x : Int) : Best [x] 0 x := ⟨0, rfl, rfl, fun i v hv => by cases i with
 | zero => simp at hv; omega
 | succ i => simp at hv, fun i v hi _ => absurd hi (Nat.not_lt_zero _)⟩
theorem foldl_max_ge : ∀ (l : List Int) (a : Int), a ≤ l.foldl max a ∧ ∀ x ∈ l, x ≤ l.foldl max a
 | [], a => ⟨Int.le_refl _, by simp⟩
 | y :: l, a => by
  obtain ⟨h1, h2⟩ := foldl_max_ge l (max a y)
  simp only [List.foldl_cons]
  refine ⟨by omega, fun x hx => ?_⟩
  rcases List.mem_cons.1 hx with e | e
  ·subst e; omega
  ·exact h2 x e
theorem foldl_max_le (m : Int) : ∀ (l : List Int) (a : Int), a ≤ m → (∀ x ∈ l, x ≤ m) → l.foldl max a ≤ m
 | [], a, h, _ => h
 | y :: l, a, h, hl => by
  simp only [List.foldl_cons]
  exact foldl_max_le m l (max a y) (by have := hl y (by simp); omega) (fun x hx => hl x (by simp [hx]))
theorem best_max {l : List Int} {b m : Int} (h : Best l b m) : Lib.maxOf l = m := by
 obtain ⟨j, rfl, h1, h2, h3⟩ := h
 have hm : m ∈ l := List.mem_of_getElem? h1
 unfold Lib.maxOf
 obtain ⟨g1, g2⟩ := foldl_max_ge l (l.headD 0)
 have h4 := g2 m hm
 have h5 : l.headD 0 ≤ m := by
  cases l with
  | nil => simp at hm
  | cons y l => exact h2 0 y rfl
 have h6 := foldl_max_le m l (l.headD 0) h5 (fun x hx => by
  obtain ⟨i, hi⟩ := List.getElem?_of_mem hx
  exact h2 i x hi)
 omega
theorem rd_get? (l : List Int) (i : Nat) (v : Int) (h : l[i]? = some v) : rd l (i : Int) = v := by
 unfold rd
 simp [h]
theorem best_index {l : List Int} {b m : Int} (h : Best l b m) (hl : l.length ≤ 1000) (k : Nat) (hk : l.length < k) : slices_Index_int_int.f k l m = some b := by
 obtain ⟨j, rfl, h1, h2, h3⟩ := h
 have hj : j < l.length := (List.getElem?_eq_some_iff.1 h1).1
 have loop : ∀ (d k i : Nat), j - i = d → i ≤ j → d < k → slices_Index_int_int.l0 k l m l.length i = some (j : Int) := by
  intro d
  induction d with
  | zero =>
   intro k i hd hi hk
   obtain ⟨k, rfl⟩ : ∃ t, k = t + 1 := ⟨k - 1, by omega⟩
   obtain rfl : i = j := by omega
   simp only [slices_Index_int_int.l0]
   rw [if_pos (by omega), if_pos (by omega), if_pos (by omega), if_pos (rd_get? l i m h1).symm]
  | succ d ih =>
   intro k i hd hi hk
   obtain ⟨k, rfl⟩ : ∃ t, k = t + 1 := ⟨k - 1, by omega⟩
   simp only [slices_Index_int_int.l0]
   have hv := List.getElem?_eq_getElem (show i < l.length by omega)
   rw [if_pos (by omega), if_pos (by omega), if_pos (by omega), rd_get? l i _ hv, if_neg (fun e => h3 i _ (by omega) hv e.symm), wrap64_id (by omega) (by omega)]
   exact ih k (i + 1) (by omega) (by omega) (by omega)
 unfold slices_Index_int_int.f
 exact loop (j - 0) k 0 rfl (by omega) (by omega)
theorem mostSpec_inner (l : List S44) (hl : l.length ≤ 1000) (c : S44) (b mo i : Int) (m : List S44) : ∀ (k : Nat) (pre : List S44) (cnt : Int) (r : Option (Int × Bool)), pre ++ m = l → 0 ≤ cnt → cnt + m.length ≤ 1000000 → m.length < k →
  (∀ k', k ≤ k' + m.length + 1 → k' < k → (if cnt + countX c m > mo then spec_MostCrossed.l0 k' l i (cnt + countX c m) l (l.length : Int) (wrap64 (i + 1)) else spec_MostCrossed.l0 k' l b mo l (l.length : Int) (wrap64 (i + 1))) = r) →
  spec_MostCrossed.l1 k l b mo i cnt l (l.length : Int) i l (l.length : Int) pre.length c.f0 c.f1 = r := by
 induction m with
 | nil =>
  intro k pre cnt r e h0 h1 hk hr
  obtain ⟨k, rfl⟩ : ∃ t, k = t + 1 := ⟨k - 1, by omega⟩
  rw [List.append_nil] at e
  subst e
  simp only [spec_MostCrossed.l1]
  rw [if_neg (by omega)]
  simpa [countX] using hr k (by simp) (by omega)
 | cons x m ih =>
  intro k pre cnt r e h0 h1 hk hr
  obtain ⟨k, rfl⟩ : ∃ t, k = t + 1 := ⟨k - 1, by omega⟩
  simp only [List.length_cons] at h1 hk hr
  have hlen : (l.length : Int) = pre.length + m.length + 1 := by rw [← e]; simp; omega
  simp only [spec_MostCrossed.l1]
  have hx : rd_T44 l (pre.length : Int) = x := by rw [← e]; exact rdC_append pre m x
  rw [if_pos (by omega), if_pos (by omega), if_pos (by omega), hx, srCross_cross]
  simp only [Option.bind_some]
  have hpl : (((pre ++ [x]).length : Nat) : Int) = (pre.length : Int) + 1 := by simp
  have IH := fun cnt h0 h1 hr => ih k (pre ++ [x]) cnt r (by simpa using e) h0 h1 (by omega) hr
  rw [hpl] at IH
  rw [wrap64_id (x := cnt + 1) (by omega) (by omega), wrap64_id (x := (pre.length : Int) + 1) (by omega) (by omega)]
  by_cases eX : crossB c x = true
  ·rw [if_pos eX]
   refine IH (cnt + 1) (by omega) (by omega) (fun k' h1 h2 => ?_)
   have := hr k' (by omega) (by omega)
   have e9 : cnt + ((countX c (x :: m) : Nat) : Int) = cnt + 1 + countX c m := by
    unfold countX; rw [List.countP_cons_of_pos eX]; omega
   rw [e9] at this
   exact this
  ·rw [if_neg eX]
   refine IH cnt (by omega) (by omega) (fun k' h1 h2 => ?_)
   have := hr k' (by omega) (by omega)
   have e9 : cnt + ((countX c (x :: m) : Nat) : Int) = cnt + countX c m := by
    unfold countX; rw [List.countP_cons_of_neg eX]
   rw [e9] at this
   exact this
def bestOf : Int → Int → Int → List Int → Int × Int
 | _, b, m, [] => (b, m)
 | i, b, m, n :: ns => if n > m then bestOf (i + 1) i n ns else bestOf (i + 1) b m ns
theorem bestOf_best : ∀ (ns pre : List Int) (b m : Int), Best pre b m → Best (pre ++ ns) (bestOf pre.length b m ns).1 (bestOf pre.length b m ns).2
 | [], pre, b, m, h => by simpa [bestOf] using h
 | n :: ns, pre, b, m, h => by
  have hpl : (((pre ++ [n]).length : Nat) : Int) = (pre.length : Int) + 1 := by simp
  have e : pre ++ n :: ns = (pre ++ [n]) ++ ns := by simp
  unfold bestOf
  by_cases hgt : n > m
  ·rw [if_pos hgt, e, ← hpl]
   exact bestOf_best ns (pre ++ [n]) _ _ (best_more h hgt)
  ·rw [if_neg hgt, e, ← hpl]
   exact bestOf_best ns (pre ++ [n]) _ _ (best_less h hgt)
theorem bestOf_all (n : Int) (ns : List Int) (hn : 0 ≤ n) : Best (n :: ns) (bestOf 0 0 (-1) (n :: ns)).1 (bestOf 0 0 (-1) (n :: ns)).2 := by
 have h := bestOf_best ns [n] 0 n (best_first n)
 unfold bestOf
 rw [if_pos (by omega)]
 simpa using h
theorem mostSpec_loop (l : List S44) (hl : l.length ≤ 1000) (m : List S44) : ∀ (k : Nat) (pre : List S44) (b mo : Int), pre ++ m = l → m.length * (l.length + 3) < k →
  spec_MostCrossed.l0 k l b mo l (l.length : Int) pre.length = some ((bestOf pre.length b mo (m.map fun c => (countX c l : Int))).1, true) := by
 induction m with
 | nil =>
  intro k pre b mo e hk
  obtain ⟨k, rfl⟩ : ∃ t, k = t + 1 := ⟨k - 1, by omega⟩
  rw [List.append_nil] at e
  subst e
  simp only [spec_MostCrossed.l0]
  rw [if_neg (by omega)]
  rfl
 | cons x m ih =>
  intro k pre b mo e hk
  obtain ⟨k, rfl⟩ : ∃ t, k = t + 1 := ⟨k - 1, by omega⟩
  have hlen : (l.length : Int) = pre.length + m.length + 1 := by rw [← e]; simp; omega
  simp only [spec_MostCrossed.l0]
  have hx : rd_T44 l (pre.length : Int) = x := by rw [← e]; exact rdC_append pre m x
  rw [if_pos (by omega), if_pos (by omega), if_pos (by omega), hx]
  simp only [List.length_cons] at hk
  have hmul : (m.length + 1) * (l.length + 3) = m.length * (l.length + 3) + (l.length + 3) := by rw [Nat.add_mul, Nat.one_mul]
  have hpl : (((pre ++ [x]).length : Nat) : Int) = (pre.length : Int) + 1 := by simp
  refine mostSpec_inner l hl x b mo pre.length l k [] 0 _ rfl (by omega) (by omega) (by omega) (fun k' h3 h4 => ?_)
  rw [Int.zero_add, wrap64_id (by omega) (by omega), ← hpl]
  simp only [List.map_cons, bestOf]
  by_cases hgt : (countX x l : Int) > mo
  ·rw [if_pos hgt, if_pos hgt, ih k' (pre ++ [x]) pre.length (countX x l) (by simpa using e) (by omega), hpl]
  ·rw [if_neg hgt, if_neg hgt, ih k' (pre ++ [x]) b mo (by simpa using e) (by omega), hpl]
theorem mostImpl_loop (n : Int) (l : List S44) (hl : l.length ≤ 1000) (hp : ∀ c ∈ l, Proper n c) (m : List S44) : ∀ (k : Nat) (pre : List S44), pre ++ m = l → m.length + 1003 < k →
  impl_MostCrossed.l0 k l (pre.map fun c => (countX c l : Int)) l (l.length : Int) pre.length = (slices_Max_int_int.f (l.map fun c => (countX c l : Int))).bind fun t => (slices_Index_int_int.f (k - m.length - 1) (l.map fun c => (countX c l : Int)) t).bind fun u => some (u, true) := by
 induction m with
 | nil =>
  intro k pre e hk
  obtain ⟨k, rfl⟩ : ∃ t, k = t + 1 := ⟨k - 1, by omega⟩
  rw [List.append_nil] at e
  subst e
  simp only [impl_MostCrossed.l0]
  rw [if_neg (by omega)]
  simp
 | cons x m ih =>
  intro k pre e hk
  obtain ⟨k, rfl⟩ : ∃ t, k = t + 1 := ⟨k - 1, by omega⟩
  simp only [List.length_cons] at hk
  have hlen : (l.length : Int) = pre.length + m.length + 1 := by rw [← e]; simp; omega
  simp only [impl_MostCrossed.l0]
  have hx : rd_T44 l (pre.length : Int) = x := by rw [← e]; exact rdC_append pre m x
  have hxp : Proper n x := hp x (by rw [← e]; simp)
  rw [if_pos (by omega), if_pos (by omega), if_pos (by omega), hx, crossed_eq n x hxp l hp (by omega) k (by omega)]
  simp only [Option.bind_some]
  rw [if_pos (by simp; omega), wrap64_id (by omega) (by omega)]
  have hpl : (((pre ++ [x]).length : Nat) : Int) = (pre.length : Int) + 1 := by simp
  have IH := ih k (pre ++ [x]) (by simpa using e) (by omega)
  rw [hpl, List.map_append] at IH
  rw [show k + 1 - (x :: m).length - 1 = k - m.length - 1 by simp only [List.length_cons]; omega]
  exact IH
def mirC (n : Int) (c : S44) : S44 := mkC ((n - c.f0) % n) (n - c.f1)
theorem mir_tmod (n x : Int) (hn : 3 ≤ n ∧ n ≤ 60) (hx : 0 ≤ x ∧ x < n) : Int.tmod (wrap64 (n - x)) n = (n - x) % n := by
 rw [wrap64_id (by omega) (by omega), Int.tmod_eq_emod_of_nonneg (by omega)]
theorem mirror_spec (n : Int) (hn : 3 ≤ n ∧ n ≤ 60) (m : List S44) : ∀ (k : Nat) (pre acc : List S44), (∀ x ∈ m, Proper n x) → pre.length + m.length ≤ 300 → acc.length ≤ pre.length → m.length + 302 < k →
  spec_MirrorChords.l0 k n acc (pre ++ m) ((pre ++ m).length : Int) pre.length = some (putAll acc (m.map (mirC n)), true) := by
 induction m with
 | nil =>
  intro k pre acc _ hl ha hk
  obtain ⟨k, rfl⟩ : ∃ t, k = t + 1 := ⟨k - 1, by omega⟩
  simp only [spec_MirrorChords.l0, List.append_nil, List.map_nil, putAll]
  rw [if_neg (by omega)]
 | cons x m ih =>
  intro k pre acc hp hl ha hk
  obtain ⟨k, rfl⟩ : ∃ t, k = t + 1 := ⟨k - 1, by omega⟩
  simp only [List.length_cons] at hl hk
  have hlen : ((pre ++ x :: m).length : Int) = pre.length + m.length + 1 := by simp; omega
  simp only [spec_MirrorChords.l0, List.map_cons, putAll]
  have hx := hp x (by simp)
  have hx' := hx
  unfold Proper at hx'
  have e3 : (n - x.f1) % n = n - x.f1 := Int.emod_eq_of_lt (by omega) (by omega)
  rw [if_pos (by omega), if_pos (by omega), if_pos (by omega), if_neg (by omega), rdC_append, mir_tmod n x.f0 hn (by omega), mir_tmod n x.f1 hn (by omega), e3, srChord_eq]
  simp only [Option.bind_some]
  clear e3
  rw [srPut_eq _ _ _ (by omega) (by omega)]
  simp only [Option.bind_some]
  rw [wrap64_id (by omega) (by omega)]
  have h1 := insL_len (mirC n x) acc
  have IH := ih k (pre ++ [x]) (insL (mirC n x) acc) (fun y hy => hp y (by simp [hy])) (by simp; omega) (by simp; omega) (by omega)
  simp only [List.append_assoc, List.cons_append, List.nil_append] at IH
  have hpl : (((pre ++ [x]).length : Nat) : Int) = (pre.length : Int) + 1 := by simp
  rw [hpl] at IH
  exact IH
theorem mirror_impl (n : Int) (hn : 3 ≤ n ∧ n ≤ 60) (m : List S44) : ∀ (k : Nat) (pre acc : List S44), (∀ x ∈ m, Proper n x) → pre.length + m.length ≤ 300 → acc.length = pre.length → m.length < k →
  impl_MirrorChords.l0 k n acc (pre ++ m) ((pre ++ m).length : Int) pre.length = some (ordL (acc ++ m.map (mirC n)), true) := by
 induction m with
 | nil =>
  intro k pre acc _ hl ha hk
  obtain ⟨k, rfl⟩ : ∃ t, k = t + 1 := ⟨k - 1, by omega⟩
  simp only [List.length_nil, Nat.add_zero] at hl
  simp only [impl_MirrorChords.l0, List.append_nil, List.map_nil]
  rw [if_neg (by omega), ordered_eq acc (by omega)]
  rfl
 | cons x m ih =>
  intro k pre acc hp hl ha hk
  obtain ⟨k, rfl⟩ : ∃ t, k = t + 1 := ⟨k - 1, by omega⟩
  simp only [List.length_cons] at hl hk
  have hlen : ((pre ++ x :: m).length : Int) = pre.length + m.length + 1 := by simp; omega
  simp only [impl_MirrorChords.l0, List.map_cons]
  have hx := hp x (by simp)
  have hx' := hx
  unfold Proper at hx'
  have e5 : wrap64 (n - x.f1) = n - x.f1 := wrap64_id (by omega) (by omega)
  rw [if_pos (by omega), if_pos (by omega), if_pos (by omega), if_neg (by omega), rdC_append, mir_tmod n x.f0 hn (by omega), e5, implChord_eq]
  simp only [Option.bind_some]
  clear e5
  rw [if_pos (by omega), wrap64_id (by omega) (by omega)]
  have IH := ih k (pre ++ [x]) (acc ++ [mirC n x]) (fun y hy => hp y (by simp [hy])) (by simp; omega) (by simp [ha]) (by omega)
  simp only [List.append_assoc, List.cons_append, List.nil_append] at IH
  have hpl : (((pre ++ [x]).length : Nat) : Int) = (pre.length : Int) + 1 := by simp
  rw [hpl] at IH
  exact IH
theorem cdTurn_loop (n t : Int) (hn : 3 ≤ n ∧ n ≤ 60) (ht : 0 ≤ t ∧ t < n) (m : List S44) : ∀ (k : Nat) (pre acc : List S44), (∀ x ∈ m, Proper n x) → pre.length + m.length ≤ 300 → acc.length ≤ pre.length → m.length + 302 < k →
  spec_cdTurn.l0 k n t acc (pre ++ m) ((pre ++ m).length : Int) pre.length = some (putAll acc (m.map (turnC n t))) := by
 induction m with
 | nil =>
  intro k pre acc _ hl ha hk
  obtain ⟨k, rfl⟩ : ∃ t, k = t + 1 := ⟨k - 1, by omega⟩
  simp only [spec_cdTurn.l0, List.append_nil, List.map_nil, putAll]
  rw [if_neg (by omega)]
 | cons x m ih =>
  intro k pre acc hp hl ha hk
  obtain ⟨k, rfl⟩ : ∃ t, k = t + 1 := ⟨k - 1, by omega⟩
  simp only [List.length_cons] at hl hk
  have hlen : ((pre ++ x :: m).length : Int) = pre.length + m.length + 1 := by simp; omega
  simp only [spec_cdTurn.l0, List.map_cons, putAll]
  have hx := hp x (by simp)
  have hx' := hx
  unfold Proper at hx'
  rw [if_pos (by omega), if_pos (by omega), if_pos (by omega), if_neg (by omega), rdC_append, turn_tmod n t _ hn ht (by omega), turn_tmod n t _ hn ht (by omega), srChord_eq]
  simp only [Option.bind_some]
  rw [srPut_eq _ _ _ (by omega) (by omega)]
  simp only [Option.bind_some]
  rw [wrap64_id (by omega) (by omega)]
  have h1 := insL_len (mkC ((x.f0 + t) % n) ((x.f1 + t) % n)) acc
  have IH := ih k (pre ++ [x]) (insL (turnC n t x) acc) (fun y hy => hp y (by simp [hy])) (by simp; omega) (by simp; unfold turnC; omega) (by omega)
  simp only [List.append_assoc, List.cons_append, List.nil_append] at IH
  have hpl : (((pre ++ [x]).length : Nat) : Int) = (pre.length : Int) + 1 := by simp
  rw [hpl] at IH
  exact IH
def XL (l : List S44) (i j : Nat) : Bool := crossB (rd_T44 l (i : Int)) (rd_T44 l (j : Int))
theorem XL_mem (n : Int) (l : List S44) (h4 : ∀ c ∈ l, Proper n c) (i : Nat) (hi : i < l.length) : Proper n (rd_T44 l (i : Int)) := by
 rw [rdC_get l i (by omega) (by omega)]
 exact h4 _ (List.getElem_mem _)
theorem XL_symm (n : Int) (l : List S44) (h4 : ∀ c ∈ l, Proper n c) (i j : Nat) (hi : i < l.length) (hj : j < l.length) : XL l i j = XL l j i :=
 crossB_symm n _ _ (XL_mem n l h4 i hi) (XL_mem n l h4 j hj)
theorem XL_irr (n : Int) (l : List S44) (h4 : ∀ c ∈ l, Proper n c) (i : Nat) (hi : i < l.length) : XL l i i = false := by
 have := crossB_iff n _ _ (XL_mem n l h4 i hi) (XL_mem n l h4 i hi)
 unfold XL
 rw [Bool.eq_false_iff, Ne, this]
 omega
theorem groups_vals (n : Int) (l : List S44) (h : goodB n l = true) : ∃ (K : Nat) (G F : List Int) (E : List Bool), PostG l.length (XL l) (G, F) ∧ (∀ i, i < l.length → 0 ≤ F.getD i 0 ∧ F.getD i 0 ≤ l.length) ∧ E.length = l.length ∧ (∀ i, i < l.length → E.getD i false = decide (F.getD i 0 % 2 = 0)) ∧ ∀ k, K ≤ k →
  spec_CrossingGroups.f k n l = some (rowsG l.length G l.length, true) ∧ impl_CrossingGroups.f k n l = some (rowsG l.length G l.length, true) ∧
  spec_SidesOfChords.f k n l = some (if (allP 0 l).any (sameP F) = true then (⟨#[]⟩, false) else (sideS E l.length, true)) ∧ impl_SidesOfChords.f k n l = some (if (allP 0 l).any (sameP F) = true then (⟨#[]⟩, false) else (sideS E l.length, true)) := by
 obtain ⟨h1, h2, h3, h4⟩ := good_spec n l h
 obtain ⟨K, G, F, O, E, e1, e2, hG, hF, hE, _, hO, hF1, hFE⟩ := groups_both l (by omega) n h4
 have hpost := groups_post l l.length rfl (by omega) (XL l) (fun i j _ _ => srCross_cross _ _) (fun i j hi hj => XL_symm n l h4 i j hi hj) (G, F) K (e1 K (Nat.le_refl _))
 have hF0 : ∀ i, i < l.length → 0 ≤ F.getD i 0 := fun i hi => (hF1 i hi).1
 have hin := allP_in l.length l 0 (by omega)
 rw [show ((0 : Nat) : Int) = 0 from rfl] at hin
 have hany := any_same l.length F E hFE hF0 (allP 0 l) hin
 have hal := allP_len l 0
 have hpx := pairsX_le l
 have hsq : l.length * l.length ≤ 40 * 40 := Nat.mul_le_mul h2 h2
 have hm : l.length * (l.length + 3) ≤ 40 * 43 := Nat.mul_le_mul h2 (by omega)
 have hm2 : (l.length + 1) * (l.length + 5) ≤ 41 * 45 := Nat.mul_le_mul (by omega) (by omega)
 have hok : (allP 0 l).all (evOk E) = true := by
  rw [List.all_eq_true]
  intro p hp
  obtain ⟨i, j, rfl, hi, hj⟩ := hin p hp
  have r0 : rd [(i : Int), (j : Int)] 0 = (i : Int) := rfl
  have r1 : rd [(i : Int), (j : Int)] 1 = (j : Int) := rfl
  unfold evOk
  have a1 : decide ([(i : Int), (j : Int)].length = 2) = true := rfl
  have a2 : decide (0 ≤ (i : Int) ∧ (i : Int) < (l.length : Int)) = true := decide_eq_true (by omega)
  have a3 : decide (0 ≤ (j : Int) ∧ (j : Int) < (l.length : Int)) = true := decide_eq_true (by omega)
  rw [r0, r1, hE, a1, a2, a3]
  rfl
 have cP : ∀ k, 2000 ≤ k → impl_CrossingPairs.f k n l = some (allP 0 l, true) := by
  intro k hk
  unfold impl_CrossingPairs.f
  have h := crossingPairs_loop n l (by omega) h4 l k [] [] rfl (by simp; omega) (by omega)
  rw [isSet_eq n l (by omega) k (by omega), Option.bind_some, if_pos ‹_›]
  simpa using h
 refine ⟨K + 5000000 + l.length, G, F, E, hpost, hF1, hE, hFE, fun k hk => ⟨?_, ?_, ?_, ?_⟩⟩
 ·have e1 := e1 k (by omega)
  have e3 := rows_loop l.length (by omega) G hG l.length k 0 (by omega) (by omega)
  simp only at e1
  unfold spec_CrossingGroups.f
  simp only [cdGood_eq n l (by omega) k (by omega), Option.bind_some, if_pos h, e1]
  exact e3
 ·have e2 := e2 k (by omega)
  simp only at e2
  unfold impl_CrossingGroups.f
  simp only [isSet_eq n l (by omega) k (by omega), Option.bind_some, if_pos h, e2]
  rw [hO]
 ·unfold spec_SidesOfChords.f
  have e1 := e1 k (by omega)
  simp only at e1
  rw [cdGood_eq n l (by omega) k (by omega), Option.bind_some, if_pos h, e1, Option.bind_some, cdPairs_eq l (by omega) k (by omega), Option.bind_some]
  refine side_pairs l.length F hF hF0 (allP 0 l) hin (by omega) (allP 0 l) [] k _ rfl (by omega) (fun ha => by rw [if_pos ha]) (fun ha k' hk' => ?_)
  rw [if_neg (by rw [ha]; simp), hF]
  have h0 : (⟨#[]⟩ : ByteArray) = sideS E 0 := by unfold sideS; simp
  rw [h0]
  exact side_bytes l.length F E hF hE (by omega) hF0 hFE l.length k' 0 (by omega) (by omega)
 ·unfold impl_SidesOfChords.f
  have e2 := e2 k (by omega)
  simp only at e2
  rw [cP k (by omega), Option.bind_some]
  simp only [Bool.true_eq_false, if_false, e2, Option.bind_some]
  rw [if_pos ⟨hok, by omega, by omega⟩, hany, sideS_nums, hE]
  by_cases ha : (allP 0 l).any (sameP F) = true
  ·rw [if_pos ha, if_pos ha]
  ·rw [if_neg ha, if_neg ha]
theorem pairs_vals (n : Int) (l : List S44) (h : goodB n l = true) (k : Nat) (hk : 20000 ≤ k) :
  (spec_CrossingPairs.f k n l = some (allP 0 l, true) ∧ impl_CrossingPairs.f k n l = some (allP 0 l, true)) ∧ (spec_CountPairsCrossing.f k n l = some ((pairsX l : Int), true) ∧ impl_CountPairsCrossing.f k n l = some ((pairsX l : Int), true)) ∧ (spec_IsPlane.f k n l = some ((pairsX l : Int) == 0, true) ∧ impl_IsPlane.f k n l = some ((pairsX l : Int) == 0, true)) := by
 obtain ⟨h1, h2, h3, h4⟩ := good_spec n l h
 have hm : l.length * (l.length + 3) ≤ 40 * 43 := Nat.mul_le_mul (by omega) (by omega)
 have hp := pairsX_le l
 have hp2 : l.length * l.length ≤ 40 * 40 := Nat.mul_le_mul (by omega) (by omega)
 have e := crossingPairs_loop n l (by omega) h4 l k [] [] rfl (by simp; omega) (by omega)
 simp only [List.length_nil, Int.natCast_zero, List.nil_append] at e
 refine ⟨?_, ?_, ?_⟩
 ·unfold spec_CrossingPairs.f impl_CrossingPairs.f
  simp only [cdGood_eq n l (by omega) k (by omega), isSet_eq n l (by omega) k (by omega), Option.bind_some, if_pos h, cdPairs_eq l (by omega) k (by omega), e]
  exact ⟨by first | rfl | trivial, by first | rfl | trivial⟩
 ·unfold spec_CountPairsCrossing.f impl_CountPairsCrossing.f
  simp only [cdGood_eq n l (by omega) k (by omega), isSet_eq n l (by omega) k (by omega), Option.bind_some, if_pos h, cdPairs_eq l (by omega) k (by omega), crossings_eq n l h4 (by omega) k (by omega), allP_len]
  exact ⟨by first | rfl | trivial, by first | rfl | trivial⟩
 ·unfold spec_IsPlane.f impl_IsPlane.f
  simp only [cdGood_eq n l (by omega) k (by omega), isSet_eq n l (by omega) k (by omega), Option.bind_some, if_pos h, cdPairs_eq l (by omega) k (by omega), crossings_eq n l h4 (by omega) k (by omega), allP_len]
  exact ⟨by first | rfl | trivial, by first | rfl | trivial⟩
theorem mostCrossed_both (n : Int) (l : List S44) (hl : l.length ≤ 1048576) : ∃ r : Int × Bool, r.2 = decide (goodB n l = true ∧ 0 < l.length) ∧ (r.2 = true → ∃ j : Nat, r.1 = (j : Int) ∧ j < l.length ∧ ∀ i : Nat, i < l.length → countX (rd_T44 l (i : Int)) l ≤ countX (rd_T44 l (j : Int)) l) ∧ ∀ k, l.length + 10000 ≤ k → spec_MostCrossed.f k n l = some r ∧ impl_MostCrossed.f k n l = some r := by
 by_cases h : goodB n l = true
 ·obtain ⟨h1, h2, h3, h4⟩ := good_spec n l h
  cases hl0 : l with
  | nil =>
   refine ⟨(0, false), (decide_eq_false (fun x => absurd x.2 (by simp))).symm, fun x => absurd x (by simp), fun k hk => ?_⟩
   subst hl0
   obtain ⟨k, rfl⟩ : ∃ t, k = t + 1 := ⟨k - 1, by simp at hk; omega⟩
   unfold spec_MostCrossed.f impl_MostCrossed.f
   simp only [cdGood_eq n [] (by simp) (k + 1) (by simp at hk ⊢; omega), isSet_eq n [] (by simp) (k + 1) (by simp at hk ⊢; omega), Option.bind_some, if_pos h, spec_MostCrossed.j0, impl_MostCrossed.j0]
   exact ⟨rfl, rfl⟩
  | cons x m =>
   rw [← hl0]
   have hpos : 0 < l.length := by rw [hl0]; simp
   have hB : Best (l.map fun c => (countX c l : Int)) (bestOf 0 0 (-1) (l.map fun c => (countX c l : Int))).1 (bestOf 0 0 (-1) (l.map fun c => (countX c l : Int))).2 := by
    rw [hl0]
    simp only [List.map_cons]
    exact bestOf_all _ _ (by omega)
   refine ⟨((bestOf 0 0 (-1) (l.map fun c => (countX c l : Int))).1, true), (decide_eq_true ⟨h, hpos⟩).symm, fun _ => ?_, fun k hk => ?_⟩
   ·obtain ⟨j, j1, j2, j3, _⟩ := hB
    have hj : j < l.length := by
     have := (List.getElem?_eq_some_iff.1 j2).1
     simpa using this
    refine ⟨j, j1, hj, fun i hi => ?_⟩
    have h5 := j3 i (countX (rd_T44 l (i : Int)) l : Int) (by rw [List.getElem?_map, List.getElem?_eq_getElem hi, rdC_get l i (by omega) (by omega)]; rfl)
    rw [List.getElem?_map, List.getElem?_eq_getElem hj] at j2
    have h6 := Option.some.inj j2
    rw [rdC_get l j (by omega) (by omega)]
    simp only [Int.toNat_natCast] at *
    omega
   obtain ⟨k, rfl⟩ : ∃ t, k = t + 1 := ⟨k - 1, by omega⟩
   have hm : l.length * (l.length + 3) ≤ 40 * 43 := Nat.mul_le_mul (by omega) (by omega)
   have e1 := mostSpec_loop l (by omega) l k [] 0 (-1) rfl (by omega)
   have e2 := mostImpl_loop n l (by omega) h4 l k [] rfl (by omega)
   have hz : ((l.length : Int) == 0) = false := beq_eq_false_iff_ne.2 (by omega)
   unfold spec_MostCrossed.f impl_MostCrossed.f
   simp only [cdGood_eq n l (by omega) (k + 1) (by omega), isSet_eq n l (by omega) (k + 1) (by omega), Option.bind_some, if_pos h, spec_MostCrossed.j0, impl_MostCrossed.j0, hz, Bool.false_eq_true, if_false]
   simp only [List.map_nil, List.length_nil, Int.natCast_zero] at e1 e2
   refine ⟨e1, ?_⟩
   rw [e2]
   unfold slices_Max_int_int.f
   rw [if_pos (by simpa using hpos), best_max hB]
   simp only [Option.bind_some]
   rw [best_index hB (by simp; omega) (k - l.length - 1) (by simp; omega)]
   rfl
 ·refine ⟨(0, false), (decide_eq_false (fun x => h x.1)).symm, fun x => absurd x (by simp), fun k hk => ?_⟩
  obtain ⟨k, rfl⟩ : ∃ t, k = t + 1 := ⟨k - 1, by omega⟩
  unfold spec_MostCrossed.f impl_MostCrossed.f
  simp only [cdGood_eq n l (by omega) (k + 1) (by omega), isSet_eq n l (by omega) (k + 1) (by omega), Option.bind_some, if_neg h, spec_MostCrossed.j0, impl_MostCrossed.j0, if_true]
  exact ⟨trivial, trivial⟩
theorem mirror_vals (n : Int) (l : List S44) (h : goodB n l = true) (k : Nat) (hk : l.length + 1000 ≤ k) : spec_MirrorChords.f k n l = some (ordL (l.map (mirC n)), true) ∧ impl_MirrorChords.f k n l = some (ordL (l.map (mirC n)), true) := by
 obtain ⟨h1, h2, h3, h4⟩ := good_spec n l h
 have e1 := mirror_spec n h1 l k [] [] h4 (by simp; omega) (by simp) (by omega)
 have e2 := mirror_impl n h1 l k [] [] h4 (by simp; omega) rfl (by omega)
 simp only [List.nil_append, List.length_nil, Int.natCast_zero, putAll_ordL] at e1 e2
 unfold spec_MirrorChords.f impl_MirrorChords.f
 simp only [cdGood_eq n l (by omega) k (by omega), isSet_eq n l (by omega) k (by omega), Option.bind_some, if_pos h]
 exact ⟨e1, e2⟩
theorem turn_vals (n : Int) (l : List S44) (t : Int) (h : goodB n l = true) (ht : 0 ≤ t ∧ t ≤ n - 1) (k : Nat) (hk : l.length + 1000 ≤ k) : spec_TurnChords.f k n l t = some (ordL (l.map (turnC n t)), true) ∧ impl_TurnChords.f k n l t = some (ordL (l.map (turnC n t)), true) := by
 obtain ⟨h1, h2, h3, h4⟩ := good_spec n l h
 have e1 := cdTurn_loop n t h1 (by omega) l k [] [] h4 (by simp; omega) (by simp) (by omega)
 simp only [List.nil_append, List.length_nil, Int.natCast_zero, putAll_ordL] at e1
 have e2 := turned_eq n t h1 (by omega) l h4 (by omega) k (by omega)
 unfold spec_TurnChords.f impl_TurnChords.f spec_cdTurn.f
 simp only [cdGood_eq n l (by omega) k (by omega), isSet_eq n l (by omega) k (by omega), Option.bind_some, if_pos h, wrap64_id (x := n - 1) (by omega) (by omega), l1In_eq, within_eq, if_pos (decide_eq_true ht), e1, e2]
 exact ⟨trivial, trivial⟩
theorem turn_none (n : Int) (l : List S44) (t : Int) (hl : l.length ≤ 1048576) (h : ¬ (goodB n l = true ∧ 0 ≤ t ∧ t ≤ n - 1)) (k : Nat) (hk : l.length + 1000 ≤ k) : spec_TurnChords.f k n l t = some ([], false) ∧ impl_TurnChords.f k n l t = some ([], false) := by
 unfold spec_TurnChords.f impl_TurnChords.f
 by_cases hg : goodB n l = true
 ·obtain ⟨h1, h2, h3, h4⟩ := good_spec n l hg
  have ht : ¬ (0 ≤ t ∧ t ≤ n - 1) := fun x => h ⟨hg, x⟩
  simp only [cdGood_eq n l (by omega) k (by omega), isSet_eq n l (by omega) k (by omega), Option.bind_some, if_pos hg, wrap64_id (x := n - 1) (by omega) (by omega), l1In_eq, within_eq, decide_eq_false ht]
  exact ⟨by simp, by simp⟩
 ·simp only [cdGood_eq n l (by omega) k (by omega), isSet_eq n l (by omega) k (by omega), Option.bind_some, if_neg hg]
  exact ⟨trivial, trivial⟩
theorem okFrom_of (n : Int) : ∀ (l : List S44) (p : Option S44), Strict l → (∀ c ∈ l, Proper n c) → (∀ q, p = some q → ∀ c ∈ l, cLt q c = true) → okFrom n p l = true
 | [], p, _, _, _ => by cases p <;> rfl
 | c :: l, p, hs, hP, hq => by
  unfold Strict at hs
  rw [List.pairwise_cons] at hs
  have ih := okFrom_of n l (some c) hs.2 (fun d hd => hP d (List.mem_cons_of_mem _ hd)) (fun q e d hd => by cases e; exact hs.1 d hd)
  have hc : isChB n c = true := decide_eq_true (hP c (List.mem_cons_self ..))
  cases p with
  | none => rw [okFrom_none, hc, ih]; rfl
  | some q => rw [okFrom_some, hc, ih, hq q rfl c (List.mem_cons_self ..)]; rfl
theorem good_of (n : Int) (l : List S44) (h1 : 3 ≤ n ∧ n ≤ 60) (h2 : l.length ≤ 40) (h3 : Strict l) (h4 : ∀ c ∈ l, Proper n c) : goodB n l = true := by
 unfold goodB
 rw [decide_eq_true h1, decide_eq_true h2, okFrom_of n l none h3 h4 (fun q e => by cases e)]
 rfl
theorem moved (n : Int) (l : List S44) (h : goodB n l = true) (f : S44 → S44) (hf : ∀ c, Proper n c → Proper n (f c)) (hx : ∀ c d, Proper n c → Proper n d → crossB (f c) (f d) = crossB c d) (g : S44 → S44) (hg : ∀ c, Proper n c → g (f c) = c) : goodB n (ordL (l.map f)) = true ∧ pairsX (ordL (l.map f)) = pairsX l ∧ ordL ((ordL (l.map f)).map g) = l := by
 obtain ⟨h1, h2, h3, h4⟩ := good_spec n l h
 refine ⟨good_of n _ h1 ?_ (ordL_strict _).1 (fun c hc => ?_), pairsX_move n f l h3 (fun c hc => hf c (h4 c hc)) (fun c hc d hd => hx c d (h4 c hc) (h4 d hd)) (fun c hc d hd e => ?_), move_back f g l h3 (fun c hc => hg c (h4 c hc))⟩
 ·have := ordL_len (l.map f)
  rw [List.length_map] at this
  omega
 ·obtain ⟨d, hd, rfl⟩ := List.mem_map.1 (((ordL_strict _).2 c).1 hc)
  exact hf d (h4 d hd)
 ·rw [← hg c (h4 c hc), e, hg d (h4 d hd)]
theorem turnC_move (n t : Int) (c : S44) : turnC n t c = moveC (fun x => (x + t) % n) c := rfl
theorem mirC_move (n : Int) (c : S44) (hc : Proper n c) : mirC n c = moveC (fun x => (n - x) % n) c := by
 unfold mirC moveC
 obtain ⟨c0, c1, c2⟩ := hc
 simp only
 rw [Int.emod_eq_of_lt (a := n - c.f1) (by omega) (by omega)]
theorem mirrored (n : Int) (l : List S44) (h : goodB n l = true) : goodB n (ordL (l.map (mirC n))) = true ∧ pairsX (ordL (l.map (mirC n))) = pairsX l ∧ ordL ((ordL (l.map (mirC n))).map (mirC n)) = l := by
 obtain ⟨h1, h2, h3, h4⟩ := good_spec n l h
 have hF := flips_mod n (by omega)
 refine moved n l h (mirC n) (fun c hc => ?_) (fun c d hc hd => ?_) (mirC n) (fun c hc => ?_)
 ·rw [mirC_move n c hc]; exact flips_proper hF hc
 ·rw [mirC_move n c hc, mirC_move n d hd]; exact flips_cross hF hc hd
 ·have hp := flips_proper hF hc
  rw [mirC_move n c hc, mirC_move n _ hp]
  exact flips_back hF hc
theorem turned (n t : Int) (l : List S44) (h : goodB n l = true) (ht : 0 ≤ t ∧ t ≤ n - 1) : goodB n (ordL (l.map (turnC n t))) = true ∧ pairsX (ordL (l.map (turnC n t))) = pairsX l ∧ ordL ((ordL (l.map (turnC n t))).map (turnC n ((n - t) % n))) = l := by
 obtain ⟨h1, h2, h3, h4⟩ := good_spec n l h
 have hT := turns_mod n t (by omega)
 have hu : (n - t) % n = 0 ∧ t = 0 ∨ (n - t) % n = n - t := by
  rcases Int.lt_or_le 0 t with c | c
  ·exact .inr (Int.emod_eq_of_lt (by omega) (by omega))
  ·obtain rfl : t = 0 := by omega
   exact .inl ⟨by simp, rfl⟩
 have hU := turns_mod n ((n - t) % n) ⟨Int.emod_nonneg _ (by omega), Int.emod_lt_of_pos _ (by omega)⟩
 refine moved n l h (turnC n t) (fun c hc => ?_) (fun c d hc hd => ?_) (turnC n ((n - t) % n)) (fun c hc => ?_)
 ·rw [turnC_move]; exact turns_proper hT hc
 ·rw [turnC_move, turnC_move]; exact turns_cross hT hc hd
 ·rw [turnC_move n t, turnC_move]
  exact turns_back hT hU hu hc
end Go.Proofs.YtfdocedppachkaaGreat.Q
end
section
namespace Go.Proofs.YtfdocedppachkaaGreat.X
open Go.RowKit Go.Proofs.YtfdocedppachkaaGreatW.PrintWords Go.Proofs.YtfdocedppachkaaGreatW.PrintLast Go.Proofs.YtfdocedppachkaaGreatW.PrintMore
attribute [local go_sem] max2_int min2_int max_two min_two max_three min_three max_four min_four
set_option linter.unusedVariables false
set_option linter.unusedSimpArgs false
open Go.Proofs.YtfdocedppachkaaGreat.Q
theorem gSame_self (l : List Int) (hl : l.length ≤ 9000) (K : Nat) (hK : l.length < K) : laws_gSame.f K l l = some true := by
 have h : ∀ (d k : Nat) (i : Int), 0 ≤ i → i ≤ l.length → (l.length : Int) - i = d → d < k → laws_gSame.l0 k l l (l.length : Int) i = some true := by
  intro d
  induction d with
  | zero =>
   intro k i h0 h1 hd hk
   obtain ⟨k, rfl⟩ : ∃ m, k = m + 1 := ⟨k - 1, by omega⟩
   simp only [laws_gSame.l0]
   rw [if_neg (by omega)]
  | succ d ih =>
   intro k i h0 h1 hd hk
   obtain ⟨k, rfl⟩ : ∃ m, k = m + 1 := ⟨k - 1, by omega⟩
   simp only [laws_gSame.l0]
   rw [if_pos (by omega), if_pos (by omega), if_pos (by omega), if_pos (by omega), if_pos trivial, wrap64_id (by omega) (by omega)]
   exact ih k (i + 1) (by omega) (by omega) (by omega) (by omega)
 unfold laws_gSame.f
 rw [if_pos rfl]
 exact h l.length K 0 (by omega) (by omega) (by omega) (by omega)
theorem gRows_self (l : List (List Int)) (hl : l.length ≤ 9000) (h1000 : ∀ x ∈ l, x.length ≤ 1000) (K : Nat) (hK : l.length + 1001 < K) : laws_gRows.f K l l = some true := by
 have hlen : ∀ i : Int, (rd_L3 l i).length ≤ 1000 := by
  intro i
  unfold rd_L3
  rw [List.getD_eq_getElem?_getD]
  by_cases hi : i.toNat < l.length
  ·rw [List.getElem?_eq_getElem hi, Option.getD_some]
   exact h1000 _ (List.getElem_mem hi)
  ·rw [List.getElem?_eq_none (by omega)]
   simp
 have h : ∀ (d k : Nat) (i : Int), 0 ≤ i → i ≤ l.length → (l.length : Int) - i = d → d + 1001 < k → laws_gRows.l0 k l l (l.length : Int) i = some true := by
  intro d
  induction d with
  | zero =>
   intro k i h0 h1 hd hk
   obtain ⟨k, rfl⟩ : ∃ m, k = m + 1 := ⟨k - 1, by omega⟩
   simp only [laws_gRows.l0]
   rw [if_neg (by omega)]
  | succ d ih =>
   intro k i h0 h1 hd hk
   obtain ⟨k, rfl⟩ : ∃ m, k = m + 1 := ⟨k - 1, by omega⟩
   have hr := hlen i
   simp only [laws_gRows.l0]
   rw [if_pos (by omega), if_pos (by omega), if_pos (by omega), if_pos (by omega), gSame_self _ (by omega) k (by omega)]
   simp only [Option.bind_some, if_true]
   rw [wrap64_id (by omega) (by omega)]
   exact ih k (i + 1) (by omega) (by omega) (by omega) (by omega)
 unfold laws_gRows.f
 rw [if_pos rfl]
 exact h l.length K 0 (by omega) (by omega) (by omega) (by omega)
theorem gChords_self (l : List S44) (hl : l.length ≤ 9000) (K : Nat) (hK : l.length < K) : laws_gChords.f K l l = some true := by
 have h : ∀ (d k : Nat) (i : Int), 0 ≤ i → i ≤ l.length → (l.length : Int) - i = d → d < k → laws_gChords.l0 k l l (l.length : Int) i = some true := by
  intro d
  induction d with
  | zero =>
   intro k i h0 h1 hd hk
   obtain ⟨k, rfl⟩ : ∃ m, k = m + 1 := ⟨k - 1, by omega⟩
   simp only [laws_gChords.l0]
   rw [if_neg (by omega)]
  | succ d ih =>
   intro k i h0 h1 hd hk
   obtain ⟨k, rfl⟩ : ∃ m, k = m + 1 := ⟨k - 1, by omega⟩
   simp only [laws_gChords.l0]
   rw [if_pos (by omega), if_pos (by omega), if_pos (by omega), if_pos (by omega), if_neg (by simp), wrap64_id (by omega) (by omega)]
   exact ih k (i + 1) (by omega) (by omega) (by omega) (by omega)
 unfold laws_gChords.f
 rw [if_pos rfl]
 exact h l.length K 0 (by omega) (by omega) (by omega) (by omega)
theorem rd_at (l : List Int) (i : Nat) (hi : i < l.length) : rd l (i : Int) = l[i] := by
 unfold rd
 rw [Int.toNat_natCast, List.getD_eq_getElem?_getD, List.getElem?_eq_getElem hi, Option.getD_some]
theorem gHas_eq (l : List Int) (x : Int) (hl : l.length ≤ 9000) (K : Nat) (hK : l.length < K) : laws_gHas.f K l x = some (l.contains x) := by
 have h : ∀ (d k i : Nat), i + d = l.length → d < k → laws_gHas.l0 k x l (l.length : Int) (i : Int) = some ((l.drop i).contains x) := by
  intro d
  induction d with
  | zero =>
   intro k i hd hk
   obtain ⟨k, rfl⟩ : ∃ m, k = m + 1 := ⟨k - 1, by omega⟩
   simp only [laws_gHas.l0]
   rw [if_neg (by omega), List.drop_eq_nil_of_le (by omega)]
   rfl
  | succ d ih =>
   intro k i hd hk
   obtain ⟨k, rfl⟩ : ∃ m, k = m + 1 := ⟨k - 1, by omega⟩
   simp only [laws_gHas.l0]
   rw [if_pos (by omega), if_pos (by omega), if_pos (by omega), List.drop_eq_getElem_cons (by omega), rd_at l i (by omega), List.contains_cons]
   by_cases e : l[i]'(by omega) = x
   ·rw [if_pos e]
    simp [e]
   ·rw [if_neg e, wrap64_id (by omega) (by omega), show (i : Int) + 1 = ((i + 1 : Nat) : Int) by omega, ih k (i + 1) (by omega) (by omega)]
    have : (x == l[i]'(by omega)) = false := beq_eq_false_iff_ne.2 (fun h => e h.symm)
    rw [this, Bool.false_or]
 unfold laws_gHas.f
 have := h l.length K 0 (by omega) hK
 rw [List.drop_zero] at this
 exact this
theorem gRises_of (l : List Int) (hp : l.Pairwise (· < ·)) (hl : l.length ≤ 9000) (K : Nat) (hK : l.length < K) : laws_gRises.f K l = some true := by
 have h : ∀ (d k i : Nat), 1 ≤ i → l.length ≤ i + d → d < k → laws_gRises.l0 k l (i : Int) = some true := by
  intro d
  induction d with
  | zero =>
   intro k i h1 hd hk
   obtain ⟨k, rfl⟩ : ∃ m, k = m + 1 := ⟨k - 1, by omega⟩
   simp only [laws_gRises.l0]
   rw [if_neg (by omega)]
  | succ d ih =>
   intro k i h1 hd hk
   obtain ⟨k, rfl⟩ : ∃ m, k = m + 1 := ⟨k - 1, by omega⟩
   simp only [laws_gRises.l0]
   by_cases c : i < l.length
   ·have e1 : wrap64 ((i : Int) - 1) = ((i - 1 : Nat) : Int) := by unfold wrap64; omega
    have hlt := List.pairwise_iff_getElem.1 hp (i - 1) i (by omega) c (by omega)
    rw [if_pos (by omega), e1, if_pos (by omega), if_pos (by omega), if_pos (by omega), rd_at l (i - 1) (by omega), rd_at l i c, if_neg (by omega), show wrap64 ((i : Int) + 1) = ((i + 1 : Nat) : Int) by unfold wrap64; omega]
    exact ih k (i + 1) (by omega) (by omega) (by omega)
   ·rw [if_neg (by omega)]
 unfold laws_gRises.f
 exact h l.length K 1 (by omega) (by omega) hK
theorem bad_vals (n : Int) (l : List S44) (hl : l.length ≤ 1000) (h : goodB n l = false) (k : Nat) (hk : l.length + 10 ≤ k) :
  impl_CrossingPairs.f k n l = some ([], false) ∧ spec_CrossingPairs.f k n l = some ([], false) ∧ impl_CountPairsCrossing.f k n l = some (0, false) ∧ spec_CountPairsCrossing.f k n l = some (0, false) ∧
  impl_IsPlane.f k n l = some (false, false) ∧ spec_IsPlane.f k n l = some (false, false) ∧ impl_CrossingGroups.f k n l = some ([], false) ∧ spec_CrossingGroups.f k n l = some ([], false) ∧
  impl_SidesOfChords.f k n l = some (⟨#[]⟩, false) ∧ spec_SidesOfChords.f k n l = some (⟨#[]⟩, false) ∧ impl_MirrorChords.f k n l = some ([], false) ∧ spec_MirrorChords.f k n l = some ([], false) := by
 have hg := cdGood_eq n l (by omega) k (by omega)
 have hs := isSet_eq n l (by omega) k (by omega)
 rw [h] at hg hs
 refine ⟨?_, ?_, ?_, ?_, ?_, ?_, ?_, ?_, ?_, ?_, ?_, ?_⟩
 ·unfold impl_CrossingPairs.f; simp [hs]
 ·unfold spec_CrossingPairs.f; simp [hg]
 ·unfold impl_CountPairsCrossing.f; simp [hs]
 ·unfold spec_CountPairsCrossing.f; simp [hg]
 ·unfold impl_IsPlane.f; simp [hs]
 ·unfold spec_IsPlane.f; simp [hg]
 ·unfold impl_CrossingGroups.f; simp [hs]
 ·unfold spec_CrossingGroups.f; simp [hg]
 ·unfold impl_SidesOfChords.f impl_CrossingPairs.f; simp [hs]
 ·unfold spec_SidesOfChords.f; simp [hg]
 ·unfold impl_MirrorChords.f; simp [hs]
 ·unfold spec_MirrorChords.f; simp [hg]
theorem are_vals (n : Int) (l : List S44) (hl : l.length ≤ 1000) (k : Nat) (hk : l.length + 10 ≤ k) : impl_AreChords.f k n l = some (goodB n l) ∧ spec_AreChords.f k n l = some (goodB n l) := by
 refine ⟨areChords_eq n l (by omega) k (by omega), ?_⟩
 unfold spec_AreChords.f
 rw [cdGood_eq n l (by omega) k (by omega)]
 rfl
theorem are_crossing (n : Int) (c d : S44) (hn : 3 ≤ n ∧ n ≤ 60) (hc : Proper n c) (hd : Proper n d) (hx : crossB c d = true) : impl_AreCrossing.f n c.f0 c.f1 d.f0 d.f1 = some (true, true) := by
 unfold impl_AreCrossing.f
 have h1 : impl_isCircle.f n = some true := by
  unfold impl_isCircle.f impl_within.f
  simp [hn.1, hn.2]
 have h2 : impl_isChord.f n c.f0 c.f1 = some true := by
  rw [implIsChord_eq]
  exact congrArg some (decide_eq_true (by unfold isCh; obtain ⟨a, b, e⟩ := hc; omega))
 have h3 : impl_isChord.f n d.f0 d.f1 = some true := by
  rw [implIsChord_eq]
  exact congrArg some (decide_eq_true (by unfold isCh; obtain ⟨a, b, e⟩ := hd; omega))
 rw [h1, Option.bind_some, if_pos rfl, h2, Option.bind_some, if_pos rfl, h3, Option.bind_some, if_pos rfl, crossing_eq n c d hc hd, hx]
 rfl
theorem count_pairs (x : Int) : ∀ (P : List (List Int)), (∀ p ∈ P, ∃ a b : Int, p = [a, b]) → P.flatten.count x = degP P x
 | [], _ => rfl
 | p :: P, h => by
  obtain ⟨a, b, e⟩ := h p List.mem_cons_self
  have ih := count_pairs x P (fun q hq => h q (List.mem_cons_of_mem _ hq))
  unfold degP at ih ⊢
  subst e
  rw [List.flatten_cons, List.count_append, ih, List.countP_cons, List.countP_cons]
  have r0 : ([a, b] : List Int).getD 0 0 = a := rfl
  have r1 : ([a, b] : List Int).getD 1 0 = b := rfl
  rw [r0, r1, List.count_cons, List.count_cons, List.count_nil]
  omega
theorem side_size (E : List Bool) (i : Nat) (hi : i ≤ E.length) : (sideS E i).size = i := by
 show (sideS E i).data.size = i
 unfold sideS
 simp
 omega
theorem side_at (E : List Bool) (i : Nat) (hi : i < (sideS E E.length).size) : (((sideS E E.length)[i]'hi).toNat : Int) = if E.getD i false = true then 105 else 111 := by
 have hi' : i < E.length := by have := side_size E E.length (Nat.le_refl _); omega
 have h : (sideS E E.length)[i]'hi = if E.getD i false = true then (105 : UInt8) else 111 := by
  show (sideS E E.length).data[i]'hi = _
  unfold sideS
  simp [List.getD_eq_getElem?_getD, List.getElem?_eq_getElem hi']
 rw [h]
 split <;> rfl
theorem good_facts (n : Int) (l : List S44) (h : goodB n l = true) : ∃ (K : Nat) (G : List (List Int)) (T : ByteArray) (D : List Int) (best : Int) (y7 y9 y11 : Bool), SetVal K n l (allP 0 l) G T D ((pairsX l : Nat) : Int) best true (((pairsX l : Nat) : Int) == 0) y7 y9 y11 ∧ SetOk K n l (allP 0 l) G T ((pairsX l : Nat) : Int) best (((pairsX l : Nat) : Int) == 0) y7 y11 ∧ (y9 = true → DropsOk K (allP 0 l) D ((pairsX l : Nat) : Int) (((pairsX l : Nat) : Int) == 0)) := by
 obtain ⟨h1, h2, h3, h4⟩ := good_spec n l h
 obtain ⟨K0, G, F, E, hpost, hF, hE, hFE, hv⟩ := groups_vals n l h
 obtain ⟨⟨D, y9⟩, hD100, hy9, hbest, hvd⟩ := fewestDrops_both n l (by omega)
 obtain ⟨⟨best, y11⟩, hy11, hmax, hvm⟩ := mostCrossed_both n l (by omega)
 simp only at hD100 hy9 hbest hy11 hmax
 obtain ⟨K, hK⟩ : ∃ K, K = K0 + 40000 := ⟨_, rfl⟩
 obtain ⟨v1, v2, v3, v4⟩ := hv K (by omega)
 obtain ⟨d1, d2⟩ := hvd K (by omega)
 obtain ⟨m1, m2⟩ := hvm K (by omega)
 obtain ⟨⟨p1, p2⟩, ⟨c1, c2⟩, ⟨i1, i2⟩⟩ := pairs_vals n l h K (by omega)
 obtain ⟨a1, a2⟩ := are_vals n l (by omega) K (by omega)
 rw [h] at a1 a2
 have hpl : (allP 0 l).length = pairsX l := allP_len l 0
 have hpx := pairsX_le l
 have hpx2 : l.length * l.length ≤ 40 * 40 := Nat.mul_le_mul h2 h2
 have hin : ∀ p ∈ allP 0 l, ∃ a b : Nat, a < b ∧ b < l.length ∧ p = [(a : Int), (b : Int)] ∧ crossB (rd_T44 l (a : Int)) (rd_T44 l (b : Int)) = true := by
  intro p hp
  obtain ⟨a, b, x1, x2, x3, x4⟩ := (allP_mem l 0 p).1 hp
  exact ⟨a, b, x1, x2, by rw [x3, Int.zero_add, Int.zero_add], x4⟩
 have hrl : (rowsG l.length G l.length).length ≤ l.length := by
  rw [rowsG_map, List.length_map]
  exact Nat.le_trans (List.length_filter_le _ _) (by rw [List.length_range]; exact Nat.le_refl _)
 have hat : ∀ (q : Nat), q < (allP 0 l).length → rd_L3 (allP 0 l) (q : Int) ∈ allP 0 l := by
  intro q hq
  unfold rd_L3
  rw [Int.toNat_natCast, List.getD_eq_getElem?_getD, List.getElem?_eq_getElem hq, Option.getD_some]
  exact List.getElem_mem hq
 obtain ⟨y7, T, hT, hside, hany⟩ : ∃ (y7 : Bool) (T : ByteArray), (if (allP 0 l).any (sameP F) = true then ((⟨#[]⟩ : ByteArray), false) else (sideS E l.length, true)) = (T, y7) ∧ (y7 = true → T = sideS E l.length) ∧ (y7 = true ↔ (allP 0 l).any (sameP F) = false) := by
  by_cases c : (allP 0 l).any (sameP F) = true
  ·exact ⟨false, ⟨#[]⟩, by rw [if_pos c], fun e => absurd e (by decide), by rw [c]; simp⟩
  ·exact ⟨true, sideS E l.length, by rw [if_neg c], fun _ => rfl, by simpa using c⟩
 rw [hT] at v3 v4
 refine ⟨K, rowsG l.length G l.length, T, D, best, y7, y9, y11, ?_, ?_, ?_⟩
 ·exact {
   pi := p2, ps := p1, ci := c2, cs := c1, li := i2, ls := i1, gi := v2, gs := v1, si := v4, ss := v3, di := d2, ds := d1, mi := m2, ms := m1, ai := a1, av := a2
   pp := gRows_self _ (by omega) (fun x hx => by obtain ⟨a, b, _, _, rfl, _⟩ := hin x hx; simp) K (by omega)
   gg := gRows_self _ (by omega) (fun x hx => by have := rowsG_small l.length G l.length x hx; omega) K (by omega)
   dd := gSame_self _ (by omega) K (by omega)
   f7 := fun _ => rfl
   f9 := by rw [hy9, h]; simp; omega
   f11 := by rw [hy11, h]; simp }
 ·obtain ⟨gi, g0, gcl⟩ := id hpost
  have hXs : ∀ i j, i < l.length → j < l.length → XL l i j = XL l j i := fun i j hi hj => XL_symm n l h4 i j hi hj
  have hmany := rows_many l.length (XL l) (G, F) hpost hF (by omega) hXs (allP 0 l) (fun a b hab hb hx => (allP_mem l 0 _).2 ⟨a, b, hab, hb, by rw [Int.zero_add, Int.zero_add], hx⟩) (fun i hi => XL_irr n l h4 i hi)
  have hrow : ∀ (a : Nat) (x : Nat), x < l.length → ((rowG l.length G a).contains (x : Int)) = decide (G.getD x 0 = (a : Int)) := by
   intro a x hx
   rw [Bool.eq_iff_iff, List.contains_iff_mem, decide_eq_true_iff]
   unfold rowG
   rw [List.mem_map]
   constructor
   ·rintro ⟨i, hi, e⟩
    obtain rfl : i = x := by omega
    exact of_decide_eq_true (List.mem_filter.1 hi).2
   ·intro e
    exact ⟨x, List.mem_filter.2 ⟨List.mem_range.2 hx, decide_eq_true e⟩, rfl⟩
  exact {
   lens := ⟨by omega, by omega, by omega⟩
   cn := by rw [hpl]
   plane := by rw [hpl]
   even := fun e => by
    have e2 := beq_iff_eq.1 e
    have : allP 0 l = [] := List.eq_nil_of_length_eq_zero (by omega)
    rw [hany, this]
    rfl
   pair := fun q hq => by
    obtain ⟨a, b, hab, hb, e, hx⟩ := hin _ (hat q hq)
    refine ⟨a, b, e, ⟨hab, hb⟩, are_crossing n _ _ h1 (XL_mem n l h4 a (by omega)) (XL_mem n l h4 b hb) hx, fun e7 => ?_⟩
    have hT2 := hside e7
    have hsz : T.size = l.length := by rw [hT2, ← hE]; exact side_size E _ (Nat.le_refl _)
    have hsp := List.any_eq_false.1 (hany.1 e7) _ (hat q hq)
    rw [e] at hsp
    unfold sameP at hsp
    have r0 : ([(a : Int), (b : Int)] : List Int).getD 0 0 = (a : Int) := rfl
    have r1 : ([(a : Int), (b : Int)] : List Int).getD 1 0 = (b : Int) := rfl
    rw [r0, r1, Int.toNat_natCast, Int.toNat_natCast] at hsp
    have hE1 := hFE a (by omega)
    have hE2 := hFE b hb
    have hF1 := hF a (by omega)
    have hF2 := hF b hb
    refine ⟨by omega, by omega, ?_⟩
    have hs1 := side_at E a (by rw [side_size E _ (Nat.le_refl _)]; omega)
    have hs2 := side_at E b (by rw [side_size E _ (Nat.le_refl _)]; omega)
    subst hT2
    have hle : sideS E l.length = sideS E E.length := by rw [hE]
    simp only [hle] at *
    rw [hs1, hs2, hE1, hE2]
    simp only [decide_eq_true_eq] at hsp ⊢
    split <;> split <;> omega
   most := fun e => by
    obtain ⟨j, e1, hj, hm⟩ := hmax e
    subst e1
    have hdeg : ∀ t : Nat, t < l.length → rd (cntL l.length (allP 0 l).flatten) (t : Int) = ((countX (rd_T44 l (t : Int)) l : Nat) : Int) := by
     intro t ht
     rw [cntL_rd _ _ _ (by omega) (by omega), count_pairs _ _ (fun p hp => by obtain ⟨a, b, _, _, e, _⟩ := hin p hp; exact ⟨_, _, e⟩)]
     have := allP_deg n l 0 t h4 ht
     rw [Int.zero_add] at this
     rw [this]
    refine ⟨by omega, by omega, fun t ht => ?_⟩
    rw [hdeg t ht, hdeg j hj]
    have := hm t ht
    omega
   group := fun q hq => by
    obtain ⟨a, ha, ea, er, ef⟩ := rows_at l.length (XL l) (G, F) hpost q hq
    obtain ⟨rest, eh⟩ := rowG_head l.length (XL l) (G, F) hpost a ha ea
    simp only at ea er ef eh
    have hsm := rowG_small l.length G a
    have hhd : rd (rowG l.length G a) 0 = (a : Int) := by rw [eh]; rfl
    refine ⟨?_, ?_, ?_, ?_, ?_⟩
    ·rw [er]
     exact ⟨by rw [eh]; simp, by omega⟩
    ·rw [er]
     refine gRises_of _ ?_ (by omega) K (by omega)
     unfold rowG
     rw [List.pairwise_map]
     exact (List.Pairwise.filter _ List.pairwise_lt_range).imp (fun h => by omega)
    ·intro h0
     obtain ⟨a', ha', ea', er', ef'⟩ := rows_at l.length (XL l) (G, F) hpost (q - 1) (Nat.lt_of_le_of_lt (Nat.sub_le _ _) hq)
     obtain ⟨rest', eh'⟩ := rowG_head l.length (XL l) (G, F) hpost a' ha' ea'
     simp only at ea' er' ef' eh'
     have hri := rows_rise l.length (XL l) (G, F) hpost (q - 1) (by simp only; omega) a' a ef' (by rw [show q - 1 + 1 = q by omega]; exact ef)
     rw [er, er', hhd]
     refine ⟨by rw [eh']; simp, ?_⟩
     rw [show rd (rowG l.length G a') 0 = (a' : Int) by rw [eh']; rfl]
     omega
    ·intro e7
     have hT2 := hside e7
     have hs1 := side_at E a (by rw [side_size E _ (Nat.le_refl _)]; omega)
     have hsz : T.size = l.length := by rw [hT2, ← hE]; exact side_size E _ (Nat.le_refl _)
     have hle : sideS E l.length = sideS E E.length := by rw [hE]
     rw [er, hhd]
     subst hT2
     simp only [hle] at *
     refine ⟨by omega, by rw [Int.toNat_natCast]; omega, ?_⟩
     simp only [Int.toNat_natCast]
     rw [hs1, hFE a ha, gi.root a ha (.inl ea)]
     rfl
    ·intro p hp
     obtain ⟨x, y, hxy, hy, e, hx⟩ := hin _ (hat p hp)
     rw [er, e]
     have r0 : rd [(x : Int), (y : Int)] 0 = (x : Int) := rfl
     have r1 : rd [(x : Int), (y : Int)] 1 = (y : Int) := rfl
     rw [r0, r1, gHas_eq _ _ (by omega) K (by omega), gHas_eq _ _ (by omega) K (by omega), hrow a x (by omega), hrow a y hy]
     refine ⟨_, rfl, ?_⟩
     rw [gcl x y (by omega) hy hx (g0 x (by omega))]
   all := rows_all l.length (XL l) (G, F) hpost
   many := by
    have : ((rowsG l.length (G, F).1 l.length).length : Nat) = (rowsG l.length G l.length).length := rfl
    omega }
 ·intro e9
  obtain ⟨b1, b2, b3, b4, b5⟩ := best_facts l D (hbest e9)
  exact {
   len := by rw [hpl] at b4; omega
   small := by omega
   rises := gRises_of D b1 (by omega) K (by omega)
   none_ := by
    rw [Bool.eq_iff_iff, beq_iff_eq, beq_iff_eq]
    constructor
    ·intro e
     have : D = [] := List.eq_nil_of_length_eq_zero (by omega)
     have := b5.1 this
     rw [this] at hpl
     simp only [List.length_nil] at hpl
     omega
    ·intro e
     have : allP 0 l = [] := List.eq_nil_of_length_eq_zero (by omega)
     rw [b5.2 this]
     rfl
   hit := fun p hp => by
    obtain ⟨a, b, hab, hb, e, hx⟩ := hin _ (hat p hp)
    have hh := b3 _ (hat p hp)
    rw [e] at hh ⊢
    unfold hitB at hh
    have r0 : rd [(a : Int), (b : Int)] 0 = (a : Int) := rfl
    have r1 : rd [(a : Int), (b : Int)] 1 = (b : Int) := rfl
    refine ⟨rfl, _, _, gHas_eq _ _ (by omega) K (by omega), gHas_eq _ _ (by omega) K (by omega), ?_⟩
    rw [r0, r1]
    simpa using hh }
theorem set_facts (n : Int) (l : List S44) (hl : l.length ≤ 60) : ∃ K P G T D cnt best b pl y7 y9 y11, SetVal K n l P G T D cnt best b pl y7 y9 y11 ∧ (b = true → SetOk K n l P G T cnt best pl y7 y11) ∧ (y9 = true → DropsOk K P D cnt pl) := by
 by_cases h : goodB n l = true
 ·obtain ⟨K, G, T, D, best, y7, y9, y11, h1, h2, h3⟩ := good_facts n l h
  exact ⟨K, _, G, T, D, _, best, true, _, y7, y9, y11, h1, fun _ => h2, h3⟩
 ·have h' : goodB n l = false := Bool.eq_false_iff.2 h
  obtain ⟨⟨D, y9⟩, hD100, hy9, hbest, hvd⟩ := fewestDrops_both n l (by omega)
  obtain ⟨⟨best, y11⟩, hy11, hmax, hvm⟩ := mostCrossed_both n l (by omega)
  simp only at hD100 hy9 hbest hy11 hmax
  obtain ⟨d1, d2⟩ := hvd 40000 (by omega)
  obtain ⟨m1, m2⟩ := hvm 40000 (by omega)
  obtain ⟨a1, a2⟩ := are_vals n l (by omega) 40000 (by omega)
  obtain ⟨v1, v2, v3, v4, v5, v6, v7, v8, v9, v10, _, _⟩ := bad_vals n l (by omega) h' 40000 (by omega)
  rw [h'] at a1 a2
  obtain rfl : y9 = false := by rw [hy9, h']; simp
  obtain rfl : y11 = false := by rw [hy11, h']; simp
  exact ⟨40000, [], [], ⟨#[]⟩, D, 0, best, false, false, false, false, false, {
   pi := v1, ps := v2, ci := v3, cs := v4, li := v5, ls := v6, gi := v7, gs := v8, si := v9, ss := v10, di := d2, ds := d1, mi := m2, ms := m1, ai := a1, av := a2
   pp := gRows_self _ (by simp) (by simp) _ (by simp)
   gg := gRows_self _ (by simp) (by simp) _ (by simp)
   dd := gSame_self _ (by omega) _ (by omega)
   f7 := fun e => e
   f9 := rfl
   f11 := rfl }, fun e => absurd e (by decide), fun e => absurd e (by decide)⟩
theorem move_facts (m : Int) (l : List S44) (t : Int) (hl : l.length ≤ 60) : ∃ K U M z b x, MoveVal K m l t U M z b ∧ (b = true → MirrorOk K m l M x) ∧ (z = true → TurnOk K m l U t x) := by
 by_cases h : goodB m l = true
 ·obtain ⟨h1, h2, h3, h4⟩ := good_spec m l h
  obtain ⟨r1, r2⟩ := mirror_vals m l h 40000 (by omega)
  obtain ⟨s1, s2, s3⟩ := mirrored m l h
  have hlm := ordL_len (l.map (mirC m))
  rw [List.length_map] at hlm
  have hm : MirrorOk 40000 m l (ordL (l.map (mirC m))) ((pairsX l : Nat) : Int) := {
   cx := (pairs_vals m l h 40000 (by omega)).2.1.2
   cy := by
    have e := (pairs_vals m _ s1 40000 (by omega)).2.1.2
    rw [s2] at e
    exact e
   twice := by
    have e := (mirror_vals m _ s1 40000 (by omega)).2
    rw [s3] at e
    exact e
   ll := gChords_self l (by omega) _ (by omega) }
  by_cases ht : 0 ≤ t ∧ t ≤ m - 1
  ·obtain ⟨e1, e2⟩ := turn_vals m l t h ht 40000 (by omega)
   obtain ⟨u1, u2, u3⟩ := turned m t l h ht
   have hlt := ordL_len (l.map (turnC m t))
   rw [List.length_map] at hlt
   refine ⟨40000, _, _, true, true, ((pairsX l : Nat) : Int), ⟨e2, e1, r2, r1, gChords_self _ (by omega) _ (by omega), gChords_self _ (by omega) _ (by omega), fun _ => rfl⟩, fun _ => hm, fun _ => ⟨⟨h1.1, h1.2, ht.1, by omega⟩, ?_, ?_⟩⟩
   ·have e := (pairs_vals m _ u1 40000 (by omega)).2.1.2
    rw [u2] at e
    exact e
   ·have hw : wrap64 (m - t) = m - t := by unfold wrap64; omega
    have hq : Int.tmod (m - t) m = (m - t) % m := Int.tmod_eq_emod_of_nonneg (by omega)
    have hb : 0 ≤ (m - t) % m ∧ (m - t) % m ≤ m - 1 := by
     have a := Int.emod_nonneg (m - t) (b := m) (by omega)
     have b := Int.emod_lt_of_pos (m - t) (b := m) (by omega)
     omega
    have e := (turn_vals m _ ((m - t) % m) u1 hb 40000 (by omega)).2
    rw [u3] at e
    rw [hw, hq]
    exact e
  ·obtain ⟨e1, e2⟩ := turn_none m l t (by omega) (fun c => ht c.2) 40000 (by omega)
   exact ⟨40000, [], _, false, true, ((pairsX l : Nat) : Int), ⟨e2, e1, r2, r1, gChords_self _ (by simp) _ (by simp), gChords_self _ (by omega) _ (by omega), fun _ => rfl⟩, fun _ => hm, fun e => absurd e (by decide)⟩
 ·have h' : goodB m l = false := Bool.eq_false_iff.2 h
  obtain ⟨e1, e2⟩ := turn_none m l t (by omega) (fun c => h c.1) 40000 (by omega)
  obtain ⟨_, _, _, _, _, _, _, _, _, _, v11, v12⟩ := bad_vals m l (by omega) h' 40000 (by omega)
  exact ⟨40000, [], [], false, false, 0, ⟨e2, e1, v11, v12, gChords_self _ (by simp) _ (by simp), gChords_self _ (by simp) _ (by simp), fun e => e⟩, fun e => absurd e (by decide), fun e => absurd e (by decide)⟩
end Go.Proofs.YtfdocedppachkaaGreat.X
end
