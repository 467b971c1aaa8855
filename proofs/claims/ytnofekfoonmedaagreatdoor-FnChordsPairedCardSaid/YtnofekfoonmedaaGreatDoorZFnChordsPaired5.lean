/- What the statement FnChordsPaired needs, part 6 of 7: words, contracts and lemmas, cut to what is named. Written by a program of this work (wip/tools/gpack.py) out of its texts and the print's. -/
import Derived.Test.YtnofekfoonmedaaGreatDoorZFnChordsPaired4
import Derived.Laws.Bits64b
import Derived.Lib.RowBridge
import Derived.Lib.Join
import Derived.Lib.Strings
set_option linter.unusedVariables false
set_option linter.unusedSimpArgs false
set_option maxHeartbeats 80000000
set_option maxRecDepth 100000
section
namespace Go.Proofs.YtnofekfoonmedaaGreatDoor.X
open Go.RowKit Go.Proofs.YtnofekfoonmedaaGreatDoorW.PrintWords Go.Proofs.YtnofekfoonmedaaGreatDoorW.PrintLast Go.Proofs.YtnofekfoonmedaaGreatDoorW.PrintMore
attribute [local go_sem] max2_int min2_int max_two min_two max_three min_three max_four min_four
set_option linter.unusedVariables false
set_option linter.unusedSimpArgs false
def Cur (w0 w : World) (g N : Nat) : Prop := ∃ (A : Option Addr) (c : Nat) (l : List Int) (at_ sd : Int), w.heap[g]? = some (.cells #[.slice A l.length c, .int .i64 at_, .int .u64 sd] 59 (0, 0)) ∧ w0.heap.size ≤ g ∧ Kd.C (Kd.int .u8) w0 A l.length l ∧ (∀ i : Int, 0 ≤ i → i < l.length → 0 ≤ rd l i ∧ rd l i ≤ 255) ∧ 0 ≤ at_ ∧ at_ ≤ N
def DrawsInt (P : Int → Prop) (w0 w : World) (g N : Nat) (e : Ending) (w' : World) : Prop := ∃ r : Int, e = .returned (.int .i64 r) ∧ P r ∧ Cur w0 w' g N ∧ Below w0.heap.size w0 w' ∧ KeepBut w w' g none
theorem bits_and_255 (x : Int) (h0 : 0 ≤ x) (h1 : x < 18446744073709551616) : 0 ≤ Go.bits .and .u64 x 255 ∧ Go.bits .and .u64 x 255 ≤ 255 := by
 have h := bits_and_u64_nat x.toNat 255 (by omega) (by omega);rw [Int.toNat_of_nonneg h0] at h;have h2 : ((255 : Nat) : Int) = 255 := rfl;rw [h2] at h;rw [h];have := Nat.and_le_right (n := x.toNat) (m := 255);exact ⟨Int.natCast_nonneg _, by omega⟩
theorem draw_small (y : Int) : 0 ≤ wrap64 (Go.bits .and .u64 (IntKind.u64.wrap y / 1099511627776) 255) ∧ wrap64 (Go.bits .and .u64 (IntKind.u64.wrap y / 1099511627776) 255) ≤ 255 := by
 have h : 0 ≤ IntKind.u64.wrap y ∧ IntKind.u64.wrap y < 18446744073709551616 := by rw [IntKind.wrap_u64]; omega
 have := bits_and_255 (IntKind.u64.wrap y / 1099511627776) (by omega) (by omega);unfold wrap64;omega
theorem next_calls (w0 w : World) (g N : Nat) (hC : Cur w0 w g N) (hB : Below w0.heap.size w0 w) (hN : N ≤ 1000000) :
  Calls Tryz.prog 84 #[.pointer (some ⟨g, 0, none⟩)] w (DrawsInt (fun r => 0 ≤ r ∧ r ≤ 255) w0 w g (N + 1)) := by
 obtain ⟨A, c, l, at_, sd, hg, hge, hl, hr, h0, h1⟩ := hC;have HG := mk_ hg;have HL := mk_ hl;have HB := mk_ hB;have HR := mk_ hr;have hc0 : w.cell? ⟨g, 0, none⟩ = some (.slice A l.length c) := (blk_cell hg 0).trans rfl;have hc1 : w.cell? ⟨g, 1, none⟩ = some (.int .i64 at_) := (blk_cell hg 1).trans rfl;have hc2 : w.cell? ⟨g, 2, none⟩ = some (.int .u64 sd) := (blk_cell hg 2).trans rfl;have hf1 := blk_frozen hg 1;have hf2 := blk_frozen hg 2;clear hg hl hB hr;have hmax := Kd.C_max HL.out;go_enter Tryz.func84, Tryz.ntmps84;go_wp2;by_cases hlt : at_ < l.length
 ·have b0 : decide (at_ < (l.length : Int)) = true := decide_eq_true hlt;have b1 : decide (at_ + 1 ≤ (l.length : Int)) = true := decide_eq_true (by omega);obtain ⟨ad, e, hx⟩ := Kd.at_int HL.out at_ h0 hlt;subst e;have hx2 := pw_cell_below HB.out hx;obtain ⟨r0, r1⟩ := HR.out at_ h0 hlt;generalize rd l at_ = x at hx hx2 r0 r1;clear hx;repeat (go_quiet (fail); try go_wp2)
  go_ret;exact ⟨_, rfl, ⟨r0, r1⟩, ⟨_, c, l, at_ + 1, _, by (with_reducible repeat (first | refine blk_drewN ?_ _ | refine blk_drew ?_)); refine blk_put (cs := #[_, .int .i64 (at_ + 1), .int .u64 sd]) ?_ 2 _ rfl; refine blk_put (cs := #[_, .int .i64 at_, .int .u64 sd]) ?_ 1 _ rfl; (with_reducible repeat (first | refine blk_drewN ?_ _ | refine blk_drew ?_)); exact HG.out, hge, HL.out, HR.out, by omega, by omega⟩, by repeat (first | exact HB.out | apply pw_below_drewN | refine below_set ?_ hge), by repeat (first | exact KeepBut.refl w g none | apply keep_drewN | apply KeepBut.set_)⟩
 ·have b0 : decide (at_ < (l.length : Int)) = false := decide_eq_false hlt;have b1 : decide (at_ + 1 ≤ (l.length : Int)) = false := decide_eq_false (by omega);repeat (go_quiet (fail); try go_wp2)
  go_ret;exact ⟨_, rfl, draw_small _, ⟨_, c, l, at_ + 1, _, by (with_reducible repeat (first | refine blk_drewN ?_ _ | refine blk_drew ?_)); refine blk_put (cs := #[_, .int .i64 (at_ + 1), .int .u64 sd]) ?_ 2 _ rfl; refine blk_put (cs := #[_, .int .i64 at_, .int .u64 sd]) ?_ 1 _ rfl; (with_reducible repeat (first | refine blk_drewN ?_ _ | refine blk_drew ?_)); exact HG.out, hge, HL.out, HR.out, by omega, by omega⟩, by repeat (first | exact HB.out | apply pw_below_drewN | refine below_set ?_ hge), by repeat (first | exact KeepBut.refl w g none | apply keep_drewN | apply KeepBut.set_)⟩
theorem Cur.up {w0 w : World} {g N N' : Nat} (h : Cur w0 w g N) (hN : N ≤ N') : Cur w0 w g N' := by
 obtain ⟨A, c, l, at_, sd, hg, hge, hl, hr, h0, h1⟩ := h;exact ⟨A, c, l, at_, sd, hg, hge, hl, hr, h0, by omega⟩
def Picked (n r : Int) : Prop := 0 ≤ r ∧ (1 ≤ n → r < n) ∧ (n ≤ 1 → r = 0)
theorem pick_calls (w0 w : World) (g N : Nat) (n : Int) (hC : Cur w0 w g N) (hB : Below w0.heap.size w0 w) (hN : N ≤ 900000) :
  Calls Tryz.prog 41 #[.pointer (some ⟨g, 0, none⟩), .int .i64 n] w (DrawsInt (Picked n) w0 w g (N + 2)) := by
 have HC := mk_ hC;have HB := mk_ hB;clear hC hB;go_enter Tryz.func41, Tryz.ntmps41;by_cases h1 : n ≤ 1
 ·have b0 : decide (n ≤ 1) = true := decide_eq_true h1;go_wp2;go_ret;exact ⟨0, rfl, ⟨Int.le_refl _, fun h => by omega, fun _ => rfl⟩, HC.out.up (by omega), HB.out, KeepBut.refl w g none⟩
 ·have b0 : decide (n ≤ 1) = false := decide_eq_false h1;go_wp2_with fail;refine (next_calls w0 _ g N HC.out HB.out (by omega)).mono ?_;rintro e w1 ⟨x, rfl, ⟨hx0, hx1⟩, hC1, hB1, hK1⟩;have HC1 := mk_ hC1;have HB1 := mk_ hB1;have HK1 := mk_ hK1;clear hC1 hB1 hK1 HC HB;have b1 : (n == 0) = false := beq_eq_false_iff_ne.2 (by omega);by_cases h2 : n > 200
  ·have b2 : decide (n > 200) = true := decide_eq_true h2;go_wp2_with fail;refine (next_calls w0 _ g (N + 1) HC1.out HB1.out (by omega)).mono ?_;rintro e w2 ⟨y, rfl, ⟨hy0, hy1⟩, hC2, hB2, hK2⟩;have HC2 := mk_ hC2;have HB2 := mk_ hB2;have HK2 := mk_ (HK1.out.trans hK2 (.inl rfl));clear hC2 hB2 hK2 HC1 HB1 HK1;go_wp2;go_ret;exact ⟨_, rfl, ⟨Int.emod_nonneg _ (by omega), fun _ => Int.emod_lt_of_pos _ (by omega), fun h => by omega⟩, HC2.out.up (by omega), HB2.out, HK2.out⟩
  ·have b2 : decide (n > 200) = false := decide_eq_false h2;go_wp2;go_ret;exact ⟨_, rfl, ⟨Int.emod_nonneg _ (by omega), fun _ => Int.emod_lt_of_pos _ (by omega), fun h => by omega⟩, HC1.out.up (by omega), HB1.out, HK1.out⟩
theorem rd_mem' (l : List Int) (j : Int) (h0 : 0 ≤ j) (h : j < l.length) : rd l j ∈ l := by
 unfold rd;rw [List.getD_eq_getElem?_getD, List.getElem?_eq_getElem (by omega), Option.getD_some];exact List.getElem_mem _
theorem among_calls (w0 w : World) (g N : Nat) (A : Option Addr) (l : List Int) (hC : Cur w0 w g N) (hB : Below w0.heap.size w0 w) (hN : N ≤ 900000) (hl : Kd.C (Kd.int .i64) w A l.length l) (hA : ∀ ad, A = some ad → ad.block ≠ g) (h0 : 0 < l.length) :
  Calls Tryz.prog 38 #[.pointer (some ⟨g, 0, none⟩), .slice A l.length l.length] w (DrawsInt (· ∈ l) w0 w g (N + 2)) := by
 have HC := mk_ hC;have HB := mk_ hB;have HL := mk_ hl;have HA := mk_ hA;have hmax := Kd.C_max hl;clear hC hB hl hA;go_enter Tryz.func38, Tryz.ntmps38;go_wp2_with fail;refine (pick_calls w0 _ g N l.length HC.out HB.out hN).mono ?_;rintro e w1 ⟨x, rfl, ⟨hx0, hx1, _⟩, hC1, hB1, hK1⟩;replace hx1 := hx1 (by omega);obtain ⟨ad, hAe, hx⟩ := Kd.at_int HL.out x hx0 hx1;subst hAe;have hm := rd_mem' l x hx0 hx1;have hx2 := keep_cell hK1 hx (by rw [add_block]; exact HA.out ad rfl);have HC1 := mk_ hC1;have HB1 := mk_ hB1;have HK1 := mk_ hK1;generalize rd l x = y at hx hx2 hm;have HM := mk_ hm;clear hC1 hB1 hK1 HC HB hx hm;go_wp2;go_ret;exact ⟨_, rfl, HM.out, HC1.out, HB1.out, HK1.out⟩
theorem lit_C (W : World) (e : Nat) (l : List Int) (h1 : l.length ≤ 1000) : Kd.C (Kd.int .i64) (W.alloc (.cells (nums .i64 l).toArray e (0, 0))) (some ⟨W.heap.size, 0, none⟩) l.length l := by
 refine Kd.C_of_reads (d := (0 : Int)) ⟨rfl, by omega, fun _ => ⟨_, rfl, fun j hj => ?_⟩⟩;rw [add_plain, blk_cell (blk_new W _) j, List.getD_eq_getElem?_getD, List.getElem?_eq_getElem hj, List.getElem?_toArray, nums, List.getElem?_map, List.getElem?_eq_getElem hj];rfl
theorem among_lit (w0 w : World) (g N e : Nat) (l : List Int) (hC : Cur w0 w g N) (hB : Below w0.heap.size w0 w) (hN : N ≤ 900000) (h0 : 0 < l.length) (h1 : l.length ≤ 1000) :
  Calls Tryz.prog 38 #[.pointer (some ⟨g, 0, none⟩), .slice (some ⟨w.heap.size, 0, none⟩) l.length l.length] (w.alloc (.cells (nums .i64 l).toArray e (0, 0))) (DrawsInt (· ∈ l) w0 w g (N + 2)) := by
 have hg : g < w.heap.size := by
  obtain ⟨A, c, l, at_, sd, hg, _⟩ := hC;exact blk_lt hg
 have hC' : Cur w0 (w.alloc (.cells (nums .i64 l).toArray e (0, 0))) g N := by
  obtain ⟨A, c, l, at_, sd, hg, r⟩ := hC;exact ⟨A, c, l, at_, sd, blk_alloc hg _, r⟩
 refine (among_calls w0 _ g N _ l hC' (below_alloc hB _) hN ?_ (fun ad h => by cases h; exact Nat.ne_of_gt hg) h0).mono ?_
 ·exact lit_C w e l h1
 ·rintro e w1 ⟨x, rfl, hm, hC1, hB1, hK1⟩;exact ⟨x, rfl, hm, hC1, hB1, (keep_alloc (KeepBut.refl w g none) _).trans hK1 (.inl rfl)⟩
def DrawsStar (P : Int → Int → Prop) (w0 w : World) (g N : Nat) (e : Ending) (w' : World) : Prop := ∃ p s : Int, e = .returned (.agg #[.int .i64 p, .int .i64 s]) ∧ P p s ∧ Cur w0 w' g N ∧ Below w0.heap.size w0 w' ∧ KeepBut w w' g none
theorem blk_two {w : World} {g : Nat} {t : TypeId} {x y : Value} (h : w.heap[g]? = some (.cells #[x, y] t (0, 0))) (a b : Value) : ((w.setCell ⟨g, 0, none⟩ a).setCell ⟨g, 1, none⟩ b).heap[g]? = some (.cells #[a, b] t (0, 0)) := blk_put (blk_put h 0 a rfl) 1 b rfl
theorem Cur.lt {w0 w : World} {g N : Nat} (h : Cur w0 w g N) : g < w.heap.size := by
 obtain ⟨A, c, l, at_, sd, hg, _⟩ := h;exact blk_lt hg
theorem Cur.alloc {w0 w : World} {g N : Nat} (h : Cur w0 w g N) (o : Obj) : Cur w0 (w.alloc o) g N := by
 obtain ⟨A, c, l, at_, sd, hg, r⟩ := h;exact ⟨A, c, l, at_, sd, blk_alloc hg _, r⟩
theorem Cur.far {w0 w : World} {g N b j : Nat} (h : Cur w0 w g N) (hb : g ≠ b) (v : Value) : Cur w0 (w.setCell ⟨b, j, none⟩ v) g N := by
 obtain ⟨A, c, l, at_, sd, hg, r⟩ := h;exact ⟨A, c, l, at_, sd, blk_far hg hb _, r⟩
theorem Cur.drewN {w0 w : World} {g N : Nat} (h : Cur w0 w g N) (n : Nat) : Cur w0 (w.drewN n) g N := h
theorem keep_box {w W : World} {g b : Nat} {o : Obj} (hk : KeepBut w W g none) (h : w.heap[b]? = some o) (hb : b ≠ g) : W.heap[b]? = some o := hk.blk h hb (by simp)
theorem sureStar_calls (w0 w : World) (g N : Nat) (hC : Cur w0 w g N) (hB : Below w0.heap.size w0 w) (hN : N ≤ 800000) :
  Calls Tryz.prog 94 #[.pointer (some ⟨g, 0, none⟩)] w (DrawsStar (fun p s => 3 ≤ p ∧ p ≤ 14 ∧ 1 ≤ s ∧ s < p) w0 w g (N + 4)) := by
 have HC := mk_ hC;have HB := mk_ hB;have hgb := Nat.ne_of_gt hC.lt;have hsz := hB.size;clear hC hB;go_enter Tryz.func94, Tryz.ntmps94;go_wp2_with fail;refine (pick_calls w0 _ g N 12 (HC.out.alloc _) (below_alloc HB.out _) (by omega)).mono ?_;rintro e w1 ⟨x, rfl, ⟨hx0, hx1, _⟩, hC1, hB1, hK1⟩;replace hx1 := hx1 (by omega);have HC1 := mk_ hC1;have HB1 := mk_ hB1;have HK1 := mk_ ((keep_alloc (KeepBut.refl w g none) _).trans hK1 (.inl rfl));have BK1 := mk_ (keep_box hK1 (blk_new w _) hgb);clear hC1 hB1 hK1 HC HB;go_wp2_with fail;refine (pick_calls w0 _ g (N + 2) (3 + x - 1) HC1.out HB1.out (by omega)).mono ?_;rintro e w2 ⟨y, rfl, ⟨hy0, hy1, _⟩, hC2, hB2, hK2⟩;replace hy1 := hy1 (by omega);have HC2 := mk_ hC2;have HB2 := mk_ hB2;have HK2 := mk_ (HK1.out.trans hK2 (.inl rfl));have BK2 := mk_ (keep_box hK2 BK1.out hgb);clear hC2 hB2 hK2 HC1 HB1 HK1 BK1;have hc0 : w2.cell? ⟨w.heap.size, 0, none⟩ = some (.int .i64 0) := (blk_cell BK2.out 0).trans rfl;have hc1 : w2.cell? ⟨w.heap.size, 1, none⟩ = some (.int .i64 0) := (blk_cell BK2.out 1).trans rfl;have hf0 := blk_frozen BK2.out 0;have hf1 := blk_frozen BK2.out 1;go_wp2;refine bodyPost_ret (results_cell_row rfl _ _ w.heap.size 107 #[.int .i64 (3 + x), .int .i64 (1 + y)] (0, 0) _ rfl (blk_two BK2.out _ _) Tryz.underlying107 rfl (by kernel_rfl)) rfl ?_;exact ⟨_, _, rfl, by omega, (HC2.out.far hgb.symm _).far hgb.symm _, below_set (below_set HB2.out (by have := HB2.out.size; omega)) (by omega), keep_far (keep_far HK2.out (Nat.le_refl _) _) (Nat.le_refl _) _⟩
def isBytes (l : List Int) : Prop := ∀ x ∈ l, 0 ≤ x ∧ x ≤ 255
theorem cur_new {w W : World} (hB : Below w.heap.size w W) {A : Option Addr} {c : Nat} {l : List Int} (hl : Kd.C (Kd.int .u8) w A l.length l) (hr : isBytes l) {g : Nat} (hs : W.heap.size = g) : Cur w (W.alloc (.cells #[.slice A l.length c, .int .i64 0, .int .u64 0] 59 (0, 0))) g 0 := by
 subst hs;exact ⟨A, c, l, 0, 0, blk_new W _, hB.size, hl, fun i h0 h1 => hr _ (rd_mem' l i h0 h1), Int.le_refl _, Int.le_refl _⟩
theorem below_one (w : World) (o : Obj) : Below w.heap.size w (w.alloc o) := below_alloc (Below.refl _ _) o
theorem among_at {w0 w : World} {g N e b : Nat} {l : List Int} (hs : w.heap.size = b) (hC : Cur w0 w g N) (hB : Below w0.heap.size w0 w) (hN : N ≤ 900000) (h0 : 0 < l.length) (h1 : l.length ≤ 1000) {n : Nat} (hn : l.length = n) {cs : Array Value} (hcs : (nums .i64 l).toArray = cs) :
  Calls Tryz.prog 38 #[.pointer (some ⟨g, 0, none⟩), .slice (some ⟨b, 0, none⟩) n n] (w.alloc (.cells cs e (0, 0))) (DrawsInt (· ∈ l) w0 w g (N + 2)) := by
 subst hs hn hcs;exact among_lit w0 w g N e l hC hB hN h0 h1
theorem Cur.drew {w0 w : World} {g N : Nat} (h : Cur w0 w g N) : Cur w0 w.drew g N := h
theorem keep_below {w W w1 : World} {g : Nat} (h : KeepBut w W g none) (hb : Below W.heap.size W w1) : KeepBut w w1 g none := h.trans (KeepBut.of_below hb g none) (.inl rfl)
theorem Cur.below {w0 w w1 : World} {g N : Nat} (h : Cur w0 w g N) (hb : Below w.heap.size w w1) : Cur w0 w1 g N := by
 obtain ⟨A, c, l, at_, sd, hg, r⟩ := h;exact ⟨A, c, l, at_, sd, blk_below hg hb, r⟩
end Go.Proofs.YtnofekfoonmedaaGreatDoor.X
end
section
namespace Go.Proofs.YtnofekfoonmedaaGreatDoor.Q
open Go.RowKit Go.Proofs.YtnofekfoonmedaaGreatDoor.X Go.Proofs.YtnofekfoonmedaaGreatDoorW.PrintWords Go.Proofs.YtnofekfoonmedaaGreatDoorW.PrintLast Go.Proofs.YtnofekfoonmedaaGreatDoorW.PrintMore
set_option linter.unusedVariables false
set_option linter.unusedSimpArgs false
theorem wrap64_id {x : Int} (h0 : -9223372036854775808 ≤ x) (h1 : x ≤ 9223372036854775807) : wrap64 x = x := by unfold wrap64; omega
theorem wrap_step {x : Int} (h0 : 0 ≤ x) (h1 : x ≤ 4611686018427387904) : wrap64 (x + 1) = x + 1 := by unfold wrap64; omega
def cLt (x y : S39) : Bool := decide (x.f0 < y.f0 ∨ (x.f0 = y.f0 ∧ x.f1 < y.f1))
theorem cLt_iff (x y : S39) : cLt x y = true ↔ (x.f0 < y.f0 ∨ (x.f0 = y.f0 ∧ x.f1 < y.f1)) := by unfold cLt; exact decide_eq_true_iff
theorem chord_ext {x y : S39} (h0 : x.f0 = y.f0) (h1 : x.f1 = y.f1) : x = y := by cases x; cases y; simp_all
def Strict (l : List S39) : Prop := l.Pairwise fun x y => cLt x y = true
theorem strict_unique : ∀ (l m : List S39), Strict l → Strict m → (∀ x, x ∈ l ↔ x ∈ m) → l = m
 | [], [], _, _, _ => rfl
 | [], y :: m, _, _, h => by have := (h y).2 (by simp); simp at this
 | x :: l, [], _, _, h => by have := (h x).1 (by simp); simp at this
 | x :: l, y :: m, hl, hm, h => by
  unfold Strict at hl hm;rw [List.pairwise_cons] at hl hm
  have e : x = y := by
   have h1 := (h x).1 (by simp);have h2 := (h y).2 (by simp);rcases List.mem_cons.1 h1 with h1 | h1
   ·exact h1
   ·rcases List.mem_cons.1 h2 with h2 | h2
    ·exact h2.symm
    ·have a := hl.1 y h2;have b := hm.1 x h1;rw [cLt_iff] at a b;omega
  subst e
  rw [strict_unique l m hl.2 hm.2 (fun z => by
   have hz := h z
   simp only [List.mem_cons] at hz
   constructor
   ·intro hzl
    rcases hz.1 (Or.inr hzl) with e | e
    ·subst e; have := hl.1 z hzl; rw [cLt_iff] at this; omega
    ·exact e
   ·intro hzm
    rcases hz.2 (Or.inr hzm) with e | e
    ·subst e; have := hm.1 z hzm; rw [cLt_iff] at this; omega
    ·exact e)]
def insL (c : S39) : List S39 → List S39
 | [] => [c]
 | x :: l => if cLt x c = true then x :: insL c l else if x.f0 = c.f0 ∧ x.f1 = c.f1 then x :: l else c :: x :: l
theorem insL_mem (c : S39) : ∀ (l : List S39) (x : S39), x ∈ insL c l ↔ x = c ∨ x ∈ l
 | [], x => by simp [insL]
 | y :: l, x => by
  unfold insL;split
  ·rw [List.mem_cons, insL_mem c l x, List.mem_cons]; constructor
   ·rintro (h | h | h) <;> simp [h]
   ·rintro (h | h | h) <;> simp [h]
  ·split
   ·rename_i e; have e := chord_ext e.1 e.2; subst e; simp
   ·simp
theorem insL_strict (c : S39) : ∀ (l : List S39), Strict l → Strict (insL c l)
 | [], _ => by simp [insL, Strict]
 | y :: l, h => by
  unfold Strict at h;rw [List.pairwise_cons] at h;unfold insL;split
  ·rename_i hy;unfold Strict;rw [List.pairwise_cons];refine ⟨fun z hz => ?_, insL_strict c l h.2⟩;rcases (insL_mem c l z).1 hz with e | e
   ·subst e; exact hy
   ·exact h.1 z e
  ·split
   ·unfold Strict; rw [List.pairwise_cons]; exact h
   ·rename_i h1 h2;have h3 : ¬ (y.f0 = c.f0 ∧ y.f1 = c.f1) := h2;have h4 : cLt c y = true := by rw [cLt_iff] at h1 ⊢; omega
    unfold Strict;rw [List.pairwise_cons, List.pairwise_cons];refine ⟨fun z hz => ?_, h⟩;rcases List.mem_cons.1 hz with e | e
    ·subst e; exact h4
    ·have h5 := h.1 z e;rw [cLt_iff] at h4 h5 ⊢;omega
theorem insL_len (c : S39) : ∀ (l : List S39), (insL c l).length ≤ l.length + 1
 | [] => by simp [insL]
 | y :: l => by
  unfold insL;have := insL_len c l;split
  ·simp; omega
  ·split <;> simp
theorem rdC_get (l : List S39) (i : Int) (h0 : 0 ≤ i) (h1 : i < l.length) : rd_T39 l i = l[i.toNat]'(by omega) := by
 unfold rd_T39;have h : i.toNat < l.length := by omega
 simp [h]
theorem srLess_eq (a b c d : Int) : spec_srLess.f a b c d = some (cLt ⟨a, b⟩ ⟨c, d⟩) := by
 unfold spec_srLess.f cLt;split
 ·rename_i h; exact congrArg some (decide_eq_true (Or.inl h)).symm
 ·split
  ·rename_i h1 h2;refine congrArg some (decide_eq_decide.2 ?_);simp only;omega
  ·rename_i h1 h2;refine congrArg some (decide_eq_false ?_).symm;simp only;omega
theorem rdC_append (l m : List S39) (x : S39) : rd_T39 (l ++ x :: m) (l.length : Int) = x := by
 rw [rdC_get _ _ (by omega) (by simp; omega)];simp
def mkC (a b : Int) : S39 := ⟨mn a b, mx a b⟩
def Proper (n : Int) (c : S39) : Prop := 0 ≤ c.f0 ∧ c.f0 < c.f1 ∧ c.f1 < n
theorem mkC_proper (n a b : Int) (ha : 0 ≤ a ∧ a < n) (hb : 0 ≤ b ∧ b < n) (h : a ≠ b) : Proper n (mkC a b) := by
 unfold Proper mkC mn mx;simp only;split <;> split <;> omega
theorem srPut_loop (c : S39) (m : List S39) : ∀ (k : Nat) (pre : List S39), pre.length + m.length ≤ 1000 → m.length < k →
  spec_srPut.l0 k (pre ++ m) pre.length c.f0 c.f1 = some (pre ++ insL c m) := by
 induction m with
 | nil =>
  intro k pre hl hk;obtain ⟨k, rfl⟩ : ∃ t, k = t + 1 := ⟨k - 1, by omega⟩;simp only [List.length_nil, Nat.add_zero] at hl;simp only [spec_srPut.l0, List.append_nil, insL];rw [if_neg (by omega)];simp only [Option.bind_some, List.nil_append, Int.toNat_natCast, List.take_length, List.drop_length, List.append_nil, List.length_nil, List.length_append, List.length_cons];rw [if_pos (by omega), if_pos (by omega), if_pos (by omega), if_pos (by omega), if_pos (by omega)]
 | cons x m ih =>
  intro k pre hl hk;obtain ⟨k, rfl⟩ : ∃ t, k = t + 1 := ⟨k - 1, by omega⟩;simp only [List.length_cons] at hl hk;simp only [spec_srPut.l0, insL];have hlen : ((pre ++ x :: m).length : Int) = pre.length + m.length + 1 := by simp; omega
  rw [if_pos (by omega), if_pos (by omega)]
  have hrd : rd_T39 (pre ++ x :: m) pre.length = x := by
   rw [rdC_get _ _ (by omega) (by omega)];simp
  rw [hrd, srLess_eq];simp only [Option.bind_some];by_cases h : cLt x c = true
  ·rw [if_pos h, if_pos h, wrap64_id (by omega) (by omega)];have := ih k (pre ++ [x]) (by simp; omega) (by omega);simp only [List.append_assoc, List.cons_append, List.nil_append, List.length_append, List.length_cons, List.length_nil] at this;rw [show (pre.length : Int) + 1 = ((pre.length + (0 + 1) : Nat) : Int) by omega];exact this
  ·rw [if_neg h, if_neg h];by_cases e : x.f0 = c.f0 ∧ x.f1 = c.f1
   ·rw [if_pos (by simpa using e), if_pos e]
   ·rw [if_neg (by simpa using e), if_neg e, if_pos (by omega)];simp only [Int.toNat_natCast, List.take_left, List.drop_left, List.nil_append, List.length_nil, List.length_append, List.length_cons];rw [if_pos (by omega), if_pos (by omega), if_pos (by omega)];simp
theorem srPut_eq (c : S39) (l : List S39) (k : Nat) (hl : l.length ≤ 1000) (hk : l.length < k) : spec_srPut.f k l c.f0 c.f1 = some (insL c l) := by
 unfold spec_srPut.f;simpa using srPut_loop c l k [] (by simpa using hl) hk
theorem srChord_eq (a b : Int) : spec_srChord.f a b = some ((mkC a b).f0, (mkC a b).f1) := by
 unfold spec_srChord.f spec_l1Least.f spec_l1Most.f mkC mn mx;by_cases h : a < b
 ·rw [if_pos h, if_neg (by omega)];simp [h];try omega
 ·rw [if_neg h];by_cases h2 : a > b
  ·rw [if_pos h2]; simp [h]; try omega
  ·rw [if_neg h2]; simp [h]; try omega
end Go.Proofs.YtnofekfoonmedaaGreatDoor.Q
end
section
namespace Go.Proofs.YtnofekfoonmedaaGreatDoor.X
open Go.RowKit Go.Proofs.YtnofekfoonmedaaGreatDoorW.PrintWords Go.Proofs.YtnofekfoonmedaaGreatDoorW.PrintLast Go.Proofs.YtnofekfoonmedaaGreatDoorW.PrintMore
attribute [local go_sem] max2_int min2_int max_two min_two max_three min_three max_four min_four
set_option linter.unusedVariables false
set_option linter.unusedSimpArgs false
open Go.Proofs.YtnofekfoonmedaaGreatDoor.Q (mkC mkC_proper Proper insL insL_len insL_mem srChord_eq srPut_eq)
def DrawsSet (P : Int → List S39 → Prop) (w0 w : World) (g N : Nat) (e : Ending) (w' : World) : Prop := ∃ (p : Int) (v : Value) (l : List S39), e = .returned (.tuple #[.int .i64 p, v]) ∧ P p l ∧ Cur w0 w' g N ∧ Below w0.heap.size w0 w' ∧ KeepBut w w' g none ∧ Kd.R k39 39 w' w0.heap.size (fun k => k ≠ g ∧ w.heap.size ≤ k) v l
theorem Cur.kept {w0 w w1 : World} {g N : Nat} {S : Nat → Prop} (h : Cur w0 w g N) (k : Kept w w1 S) (hS : ¬ S g) : Cur w0 w1 g N := by
 obtain ⟨A, c, l, at_, sd, hg, r⟩ := h;exact ⟨A, c, l, at_, sd, (k.2 g (blk_lt hg) hS).trans hg, r⟩
theorem star_fin : ∀ p ∈ List.range 15, ∀ s ∈ List.range p, 3 ≤ p → 1 ≤ s → ((spec_srChords.f 40 (p : Int) (s : Int)).any fun l => decide (l.length ≤ 60)) = true := by decide +kernel
def planeL (q : Nat) : List Int := (spec_cdPlane.f 40 (4 + 2 * (q : Int))).getD []
theorem plane_fin : ∀ q ∈ List.range 5, spec_cdPlane.f 40 (4 + 2 * (q : Int)) = some (planeL q) ∧ (planeL q).length = 5 + 2 * q ∧ 1 ≤ rd (planeL q) (4 + 2 * (q : Int)) ∧ ∀ r ∈ List.range (rd (planeL q) (4 + 2 * (q : Int))).toNat, ((spec_cdOfRank.f 40 0 (4 + 2 * (q : Int)) (r : Int) (planeL q)).any fun l => decide (l.length ≤ 60)) = true := by decide +kernel
theorem star_set (p s : Int) (h0 : 3 ≤ p) (h1 : p ≤ 14) (h2 : 1 ≤ s) (h3 : s < p) : ∃ l, spec_srChords.f 40 p s = some l ∧ l.length ≤ 60 := by
 have h := star_fin p.toNat (List.mem_range.2 (by omega)) s.toNat (List.mem_range.2 (by omega)) (by omega) (by omega);rw [Int.toNat_of_nonneg (by omega), Int.toNat_of_nonneg (by omega)] at h
 obtain ⟨l, hl⟩ : ∃ l, spec_srChords.f 40 p s = some l := by
  cases hc : spec_srChords.f 40 p s with
  | none => rw [hc] at h; simp at h
  | some l => exact ⟨l, rfl⟩
 rw [hl] at h;exact ⟨l, hl, by simpa using h⟩
theorem plane_set (q : Int) (h0 : 0 ≤ q) (h1 : q < 5) : ∃ cs, spec_cdPlane.f 40 (4 + 2 * q) = some cs ∧ (cs.length : Int) = 5 + 2 * q ∧ 1 ≤ rd cs (4 + 2 * q) ∧ ∀ r : Int, 0 ≤ r → r < rd cs (4 + 2 * q) → ∃ l, spec_cdOfRank.f 40 0 (4 + 2 * q) r cs = some l ∧ l.length ≤ 60 := by
 obtain ⟨a, b, c, d⟩ := plane_fin q.toNat (List.mem_range.2 (by omega));rw [Int.toNat_of_nonneg h0] at a c d;refine ⟨_, a, by omega, c, fun r h0 h1 => ?_⟩;have h := d r.toNat (List.mem_range.2 (by omega));rw [Int.toNat_of_nonneg h0] at h;generalize planeL q.toNat = cs at h ⊢
 obtain ⟨l, hl⟩ : ∃ l, spec_cdOfRank.f 40 0 (4 + 2 * q) r cs = some l := by
  cases hc : spec_cdOfRank.f 40 0 (4 + 2 * q) r cs with
  | none => rw [hc] at h; simp at h
  | some l => exact ⟨l, rfl⟩
 rw [hl] at h;exact ⟨l, hl, by simpa using h⟩
theorem Cur.grown {w0 w w1 : World} {g N : Nat} {row : Option Nat} (h : Cur w0 w g N) (k : w.grownBy w1 row) (hr : row ≠ some g) : Cur w0 w1 g N := by
 obtain ⟨A, c, l, at_, sd, hg, r⟩ := h;exact ⟨A, c, l, at_, sd, (k.block g (blk_lt hg) (fun e => hr e.symm)).trans hg, r⟩
theorem keep_grown {w W w1 : World} {g : Nat} {row : Option Nat} (h : KeepBut w W g none) (k : W.grownBy w1 row) (hr : ∀ b, row = some b → w.heap.size ≤ b) : KeepBut w w1 g none :=
 h.trans (KeepBut.of_grown k g) (by cases row with
  | none => exact .inl rfl
  | some b => exact .inr ⟨b, rfl, hr b rfl⟩)
theorem set_made {w0 w W W1 : World} {g : Nat} {v : Value} {l : List S39} (h : Kd.R k39 39 W1 W.heap.size (fun _ => True) v l) (hk : KeepBut w W g none) (hs : w0.heap.size ≤ W.heap.size) (hg : g < w.heap.size) : Kd.R k39 39 W1 w0.heap.size (fun k => k ≠ g ∧ w.heap.size ≤ k) v l := by
 have := hk.1;exact Kd.R_lower (Kd.R_mono (Kd.R_bound h) (fun k hk => ⟨by omega, by omega⟩)) hs
theorem ring_ne (n a z : Int) (ha : 0 ≤ a ∧ a < n) (hz : 0 ≤ z ∧ z < n - 1) : 0 ≤ (a + 1 + z) % n ∧ (a + 1 + z) % n < n ∧ a ≠ (a + 1 + z) % n := by
 have h1 := Int.emod_nonneg (a + 1 + z) (show n ≠ 0 by omega);have h2 := Int.emod_lt_of_pos (a + 1 + z) (show 0 < n by omega);refine ⟨h1, h2, fun e => ?_⟩;have h3 := Int.mul_ediv_add_emod (a + 1 + z) n;have h4 : n ∣ 1 + z := ⟨(a + 1 + z) / n, by omega⟩;have := Int.le_of_dvd (by omega) h4;omega
theorem sureChords_calls (w0 w : World) (g N : Nat) (most : Nat) (hm : most ≤ 60) (hC : Cur w0 w g N) (hB : Below w0.heap.size w0 w) (hN : N ≤ 800000) :
  Calls Tryz.prog 77 #[.pointer (some ⟨g, 0, none⟩), .int .i64 (most : Int)] w (DrawsSet (fun p l => 3 ≤ p ∧ p ≤ 12 ∧ l.length ≤ most ∧ ∀ c ∈ l, Proper 60 c) w0 w g (N + 4 + 4 * most)) := by
 have HC := mk_ hC;have HB := mk_ hB;have hg := hC.lt;clear hC hB;go_enter Tryz.func77, Tryz.ntmps77;go_wp2_with fail;refine (pick_calls w0 _ g N 10 HC.out HB.out (by omega)).mono ?_;rintro e w1 ⟨x, rfl, ⟨hx0, hx1, _⟩, hC1, hB1, hK1⟩;replace hx1 := hx1 (by omega);have HC1 := mk_ hC1;have HB1 := mk_ hB1;have HK1 := mk_ hK1;clear hC1 hB1 hK1 HC HB;go_wp2_with fail;refine (pick_calls w0 _ g (N + 2) ((most : Int) + 1) HC1.out HB1.out (by omega)).mono ?_;rintro e w2 ⟨y, rfl, ⟨hy0, hy1, _⟩, hC2, hB2, hK2⟩;replace hy1 := hy1 (by omega);have HC2 := mk_ hC2;have HB2 := mk_ hB2;have HK2 := mk_ (HK1.out.trans hK2 (.inl rfl));clear hC2 hB2 hK2 HC1 HB1 HK1;go_wp2_with fail;go_loopg [7, 8] most (fun gg v7 v8 wr => ∃ (l : List S39) (m : Nat), v8 = .int .i64 (m : Int) ∧ m ≤ gg ∧ l.length + m ≤ most ∧ Aside0 (∀ c ∈ l, Proper 60 c) ∧ Aside0 (Kd.R k39 39 wr w0.heap.size (fun k => k ≠ g ∧ w.heap.size ≤ k) v7 l) ∧ Aside0 (Cur w0 wr g (N + 4 + 4 * (most - m))) ∧ Aside0 (Below w0.heap.size w0 wr) ∧ Aside0 (KeepBut w wr g none))
 case atStart => exact ⟨[], y.toNat, by rw [Int.toNat_of_nonneg (by omega)], by omega, by simp only [List.length_nil]; omega, ⟨by simp⟩, ⟨Kd.R_nil _ _ _ _ _⟩, ⟨HC2.out.up (by omega)⟩, HB2, HK2⟩
 case round =>
  clear HC2 HB2 HK2;obtain ⟨l, m, rfl, hmg, hlm, HPR, HR, HC, HB, HK⟩ := hrel;by_cases hm : 0 < m
  ·obtain ⟨m, rfl⟩ : ∃ j, m = j + 1 := ⟨m - 1, by omega⟩;go_wp2_with fail;refine (pick_calls w0 _ g (N + 4 + 4 * (most - (m + 1))) (3 + x) HC.out HB.out (by omega)).mono ?_;rintro e w3 ⟨a, rfl, ⟨ha0, ha1, _⟩, hC1, hB1, hK1⟩;replace ha1 := ha1 (by omega);have HC1 := mk_ hC1;have HB1 := mk_ hB1;have HR1 := mk_ (Kd.R_keep HR.out hK1 (fun _ h => h.1));have HK1 := mk_ (HK.out.trans hK1 (.inl rfl));clear hC1 hB1 hK1 HC HB HK HR;go_wp2_with fail;refine (pick_calls w0 _ g (N + 4 + 4 * (most - (m + 1)) + 2) (3 + x - 1) HC1.out HB1.out (by omega)).mono ?_;rintro e w4 ⟨z, rfl, ⟨hz0, hz1, _⟩, hC2, hB2, hK2⟩;replace hz1 := hz1 (by omega);have HC2 := mk_ hC2;have HB2 := mk_ hB2;have HR2 := mk_ (Kd.R_keep HR1.out hK2 (fun _ h => h.1));have HK2 := mk_ (HK1.out.trans hK2 (.inl rfl));clear hC2 hB2 hK2 HC1 HB1 HK1 HR1;have b0 : ((3 + x : Int) == 0) = false := beq_eq_false_iff_ne.2 (by omega);go_wp2_with fail;refine (spec_srChord.calls a ((a + 1 + z) % (3 + x)) (mkC _ _).f0 (mkC _ _).f1 _ (srChord_eq _ _)).mono ?_;rintro e w5 ⟨rfl, hb⟩;have HC3 := mk_ (HC2.out.below hb);have HB3 := mk_ (below_step HB2.out hb);have HR3 := mk_ (Kd.R_below HR2.out hb);have HK3 := mk_ (keep_below HK2.out hb);clear hb HC2 HB2 HK2 HR2;have HPC := mk_ (let h := ring_ne (3 + x) a z (by omega) (by omega); mkC_proper 60 a ((a + 1 + z) % (3 + x)) (by omega) (by omega) h.2.2);generalize mkC _ _ = c at HPC ⊢;go_wp2_with fail;refine (spec_srPut.calls 1000 (fun k => k ≠ g ∧ w.heap.size ≤ k) _ l c.f0 c.f1 (insL c l) w0 _ HB3.out HR3.out (srPut_eq c l 1000 (by omega) (by omega))).mono ?_;rintro e w6 ⟨v, rfl, hR, hB, hk⟩;have hil := insL_len c l;have HC4 := mk_ (HC3.out.kept hk (fun h => h.1 rfl));have HB4 := mk_ hB;have hsz := HK3.out.1;have HR4 := mk_ (Kd.R_mono hR (fun k h => h.elim id (fun h => ⟨by omega, by omega⟩)));have HK4 := mk_ (Kept.keep HK3.out hk (fun k h => h.2));clear hR hB hk HC3 HB3 HR3 HK3;go_wp2;go_roundg m
   case measure => omega
   case rel => exact ⟨insL c l, m, by go_num, by omega, by omega, ⟨fun d hd => ((insL_mem c l d).1 hd).elim (fun e => e ▸ HPC.out) (HPR.out d)⟩, HR4, ⟨HC4.out.up (by omega)⟩, HB4, HK4⟩
  ·go_wp2;go_ret2;exact ⟨_, _, l, rfl, ⟨by omega, by omega, by omega, HPR.out⟩, HC.out.up (by omega), HB.out, HK.out, HR.out⟩
def setN1 : List Int := [-1, 2, 3, 60, 61, 4611686018427387904]
def setN2 : List Int := [-1, 0, 2, 59, 4611686018427387904]
def setN3 : List Int := [-1, 0, 3, 59, 60, 4611686018427387904]
theorem chords_calls (w0 w : World) (g N : Nat) (hC : Cur w0 w g N) (hB : Below w0.heap.size w0 w) (hN : N ≤ 700000) :
  Calls Tryz.prog 58 #[.pointer (some ⟨g, 0, none⟩)] w (DrawsSet (fun _ l => l.length ≤ 60) w0 w g (N + 200)) := by
 have HC := mk_ hC;have HB := mk_ hB;have hg := hC.lt;clear hC hB;go_enter Tryz.func58, Tryz.ntmps58;go_wp2_with fail;refine (sureChords_calls w0 _ g N 9 (by decide) HC.out HB.out (by omega)).mono ?_;rintro e w1 ⟨p, v, l, rfl, ⟨hp0, hp1, hl, _⟩, hC1, hB1, hK1, hR1⟩;have HC1 := mk_ hC1;have HB1 := mk_ hB1;have HK1 := mk_ hK1;have HR1 := mk_ hR1;clear hC1 hB1 hK1 hR1 HC HB;go_wp2_with fail;refine (pick_calls w0 _ g (N + 4 + 4 * 9) 18 HC1.out HB1.out (by omega)).mono ?_;rintro e w2 ⟨q, rfl, ⟨hq0, hq1, _⟩, hC2, hB2, hK2⟩;replace hq1 := hq1 (by omega);have HC2 := mk_ hC2;have HB2 := mk_ hB2;have HR2 := mk_ (Kd.R_keep HR1.out hK2 (fun _ h => h.1));have HK2 := mk_ (HK1.out.trans hK2 (.inl rfl));clear hC2 hB2 hK2 HC1 HB1 HK1 HR1;by_cases q0 : q = 0
 ·have b0 : (q == 0) = true := beq_iff_eq.2 q0;clear q0;go_wp2_with fail;refine (among_lit w0 w2 g (N + 4 + 4 * 9 + 2) 3 setN1 HC2.out HB2.out (by omega) (by decide) (by decide)).mono ?_;rintro e w3 ⟨x, rfl, hx, hC3, hB3, hK3⟩;have HC3 := mk_ hC3;have HB3 := mk_ hB3;have HR3 := mk_ (Kd.R_keep HR2.out hK3 (fun _ h => h.1));have HK3 := mk_ (HK2.out.trans hK3 (.inl rfl));clear hC3 hB3 hK3 hx HC2 HB2 HK2 HR2;go_wp2;go_ret2;exact ⟨_, _, l, rfl, by omega, HC3.out.up (by omega), HB3.out, HK3.out, HR3.out⟩
 ·have b0 : (q == 0) = false := beq_eq_false_iff_ne.2 q0;by_cases q1 : q = 1
  ·have b1 : (q == 1) = true := beq_iff_eq.2 q1;clear q0 q1;go_wp2_with fail;refine (among_lit w0 w2 g (N + 4 + 4 * 9 + 2) 3 setN2 HC2.out HB2.out (by omega) (by decide) (by decide)).mono ?_;rintro e w3 ⟨x, rfl, hx, hC3, hB3, hK3⟩;have HC3 := mk_ hC3;have HB3 := mk_ hB3;have HR3 := mk_ (Kd.R_keep HR2.out hK3 (fun _ h => h.1));have HK3 := mk_ (HK2.out.trans hK3 (.inl rfl));clear hC3 hB3 hK3 hx HC2 HB2 HK2 HR2;go_wp2_with fail;refine (among_lit w0 w3 g (N + 4 + 4 * 9 + 4) 3 setN3 HC3.out HB3.out (by omega) (by decide) (by decide)).mono ?_;rintro e w4 ⟨y, rfl, hy, hC4, hB4, hK4⟩;have HC4 := mk_ hC4;have HB4 := mk_ hB4;have HR4 := mk_ (Kd.R_keep HR3.out hK4 (fun _ h => h.1));have HK4 := mk_ (HK3.out.trans hK4 (.inl rfl));clear hC4 hB4 hK4 hy HC3 HB3 HK3 HR3;go_wp2_with ((with_reducible refine gate_builtin (b := .append) (xs := #[.tmp 22, .tmp 30]) rfl ?_); at_builtin; refine Kd.R_append k39 (w0 := w0) w0.heap.size rfl (.tmp 22) (.tmp 30) 26 39 (.agg #[(.int .i64 0), (.int .i64 0)]) 16 rfl Tryz.underlying26 info39 rfl (by decide) (by omega) v l (⟨x, y⟩ : S39) [.int .i64 x, .int .i64 y] (fun k => k ≠ g ∧ w.heap.size ≤ k) (fun _ => False) rfl (by go_simp) ?aP (fun _ hk => hk.elim) ?aF HR4.out HB4.out ?aS ?aL ?_; (case aP => exact k39_mkM _ _ _ (⟨x, y⟩ : S39)); (case aF => exact fun k hk => by have := HK4.out.1; exact ⟨by omega, by omega⟩); (case aS => exact below_size HB4.out); (case aL => omega); intro v5 w5 hR hB hG hA; have HR5 := mk_ hR; have HB5 := mk_ hB; have HC5 := mk_ (HC4.out.grown hG (fun e => (HR4.out.1 _ e).1 rfl)); have HK5 := mk_ (keep_grown HK4.out hG (fun b e => (HR4.out.1 _ e).2)); clear hR hB hG hA HR4 HB4 HC4 HK4);go_ret2;exact ⟨_, _, _, rfl, by simp only [List.length_append, List.length_cons, List.length_nil]; omega, HC5.out.up (by omega), HB5.out, HK5.out, HR5.out⟩
  ·have b1 : (q == 1) = false := beq_eq_false_iff_ne.2 q1;by_cases q2 : q = 2
   ·have b2 : (q == 2) = true := beq_iff_eq.2 q2;clear q0 q1 q2;go_wp2_with fail;go_loopg [5, 6] 41 (fun gg v5 v6 wr => ∃ (m : List S39) (i : Nat), v6 = .int .i64 (i : Int) ∧ i ≤ 41 ∧ 41 - i ≤ gg ∧ m.length ≤ i ∧ Aside0 (Kd.R k39 39 wr w0.heap.size (fun k => k ≠ g ∧ w.heap.size ≤ k) v5 m) ∧ Aside0 (Cur w0 wr g (N + 4 + 4 * 9 + 2 + 2 * i)) ∧ Aside0 (Below w0.heap.size w0 wr) ∧ Aside0 (KeepBut w wr g none))
    case atStart => exact ⟨[], 0, rfl, by omega, by omega, by simp, ⟨Kd.R_nil _ _ _ _ _⟩, HC2, HB2, HK2⟩
    case round =>
     clear HC2 HB2 HK2 HR2;obtain ⟨m, i, rfl, hi, hig, hmi, HR, HC, HB, HK⟩ := hrel;go_wp2_with fail;refine (pick_calls w0 _ g (N + 4 + 4 * 9 + 2 + 2 * i) 2 HC.out HB.out (by omega)).mono ?_;rintro e w3 ⟨z, rfl, ⟨hz0, hz1, _⟩, hC1, hB1, hK1⟩;replace hz1 := hz1 (by omega);have HC1 := mk_ hC1;have HB1 := mk_ hB1;have HR1 := mk_ (Kd.R_keep HR.out hK1 (fun _ h => h.1));have HK1 := mk_ (HK.out.trans hK1 (.inl rfl));clear hC1 hB1 hK1 HC HB HK HR;by_cases hz : (i : Int) < 40 + z
     ·have bz : decide ((i : Int) < 40 + z) = true := decide_eq_true hz;go_wp2_with fail;refine (spec_srChord.calls _ _ (mkC _ _).f0 (mkC _ _).f1 _ (srChord_eq _ _)).mono ?_;rintro e w5 ⟨rfl, hb⟩;have HC3 := mk_ (HC1.out.below hb);have HB3 := mk_ (below_step HB1.out hb);have HR3 := mk_ (Kd.R_below HR1.out hb);have HK3 := mk_ (keep_below HK1.out hb);clear hb HC1 HB1 HK1 HR1;generalize mkC _ _ = c;go_wp2_with fail;refine (spec_srPut.calls 1000 (fun k => k ≠ g ∧ w.heap.size ≤ k) _ m c.f0 c.f1 (insL c m) w0 _ HB3.out HR3.out (srPut_eq c m 1000 (by omega) (by omega))).mono ?_;rintro e w6 ⟨v, rfl, hR, hB, hk⟩;have hil := insL_len c m;have HC4 := mk_ (HC3.out.kept hk (fun h => h.1 rfl));have HB4 := mk_ hB;have hsz := HK3.out.1;have HR4 := mk_ (Kd.R_mono hR (fun k h => h.elim id (fun h => ⟨by omega, by omega⟩)));have HK4 := mk_ (Kept.keep HK3.out hk (fun k h => h.2));clear hR hB hk HC3 HB3 HR3 HK3;go_wp2;go_roundg (41 - (i + 1))
      case measure => omega
      case rel => exact ⟨insL c m, i + 1, by go_num, by omega, by omega, by omega, HR4, ⟨HC4.out.up (by omega)⟩, HB4, HK4⟩
     ·have bz : decide ((i : Int) < 40 + z) = false := decide_eq_false hz;go_wp2;go_ret2;exact ⟨_, _, m, rfl, by omega, HC1.out.up (by omega), HB1.out, HK1.out, HR1.out⟩
   ·have b2 : (q == 2) = false := beq_eq_false_iff_ne.2 q2;by_cases q3 : q = 3
    ·have b3 : (q == 3) = true := beq_iff_eq.2 q3;clear q0 q1 q2 q3;go_wp2_with fail;refine (sureStar_calls w0 _ g (N + 4 + 4 * 9 + 2) HC2.out HB2.out (by omega)).mono ?_;rintro e w3 ⟨sp, ss, rfl, ⟨hsp0, hsp1, hss0, hss1⟩, hC3, hB3, hK3⟩;have HC3 := mk_ hC3;have HB3 := mk_ hB3;have HK3 := mk_ (HK2.out.trans hK3 (.inl rfl));clear hC3 hB3 hK3 HC2 HB2 HK2 HR2;obtain ⟨m, hm, hml⟩ := star_set sp ss hsp0 hsp1 hss0 hss1;have HM := mk_ hm;clear hm;go_wp2_with fail;refine (spec_srChords.calls 40 sp ss m _ HM.out).mono ?_;rintro e w4 ⟨v4, rfl, hR, hb⟩;have HC4 := mk_ ((HC3.out.alloc _).below hb);have HB4 := mk_ (below_step (below_alloc HB3.out _) hb);have HR4 := mk_ (set_made hR (keep_alloc HK3.out _) (below_size (below_alloc HB3.out _)) hg);have HK4 := mk_ (keep_below (keep_alloc HK3.out _) hb);have hc0 : w4.cell? ⟨w3.heap.size, 0, none⟩ = some (.int .i64 sp) := (blk_cell (blk_below (blk_new w3 _) hb) 0).trans rfl;clear hR hb HC3 HB3 HK3;obtain ⟨A4, c4, rfl⟩ := Kd.R_slice HR4.out;by_cases h12 : 12 < m.length
     ·have b12 : decide ((m.length : Int) > 12) = true := decide_eq_true (by omega);have hcl := (Kd.R_reads' HR4.out).2.1;have q12 : ((12 : Int) ≤ (c4 : Int)) = True := eq_true (by omega);go_wp2;go_ret2;exact ⟨_, _, m.take 12, rfl, by simp only [List.length_take]; omega, HC4.out.up (by omega), HB4.out, HK4.out, Kd.R_take HR4.out (by omega)⟩
     ·have b12 : decide ((m.length : Int) > 12) = false := decide_eq_false (by omega);go_wp2;go_ret2;exact ⟨_, _, m, rfl, by omega, HC4.out.up (by omega), HB4.out, HK4.out, HR4.out⟩
    ·have b3 : (q == 3) = false := beq_eq_false_iff_ne.2 q3;by_cases q4 : q = 4 ∨ q = 5
     ·clear q0 q1 q2 q3;rcases q4 with q4 | q4
      ·have b4 : (q == 4) = true := beq_iff_eq.2 q4;clear q4;go_wp2_with fail;refine (pick_calls w0 _ g (N + 4 + 4 * 9 + 2) 5 HC2.out HB2.out (by omega)).mono ?_;rintro e w3 ⟨z, rfl, ⟨hz0, hz1, _⟩, hC1, hB1, hK1⟩;replace hz1 := hz1 (by omega);have HC3 := mk_ hC1;have HB3 := mk_ hB1;have HK3 := mk_ (HK2.out.trans hK1 (.inl rfl));clear hC1 hB1 hK1 HC2 HB2 HK2 HR2;obtain ⟨cs, hcs, hcl, hc1, hof⟩ := plane_set z hz0 hz1;have HCS := mk_ hcs;have HOF := mk_ hof;clear hcs hof;go_wp2_with fail;refine (spec_cdPlane.calls 40 (4 + 2 * z) cs _ HCS.out).mono ?_;rintro e w4 ⟨v4, rfl, hR, hb⟩;obtain ⟨A4, c4, e4⟩ := Kd.R_slice hR;subst e4;have HC4 := mk_ (HC3.out.below hb);have HB4 := mk_ (below_step HB3.out hb);have HK4 := mk_ (keep_below HK3.out hb);have hR' := (Kd.R_reads' hR).2.2;obtain ⟨ad, e4, hx⟩ := Kd.at_int hR' (4 + 2 * z) (by omega) (by omega);cases e4;have HX := mk_ (HOF.out);clear hR hR' hb HC3 HB3 HK3;have hcp : (4 + 2 * z < (cs.length : Int)) = True := eq_true (by omega);generalize rd cs (4 + 2 * z) = y at hx hc1 HX;go_wp2_with fail;refine (pick_calls w0 _ g (N + 4 + 4 * 9 + 4) y HC4.out HB4.out (by omega)).mono ?_;rintro e w5 ⟨r, rfl, ⟨hr0, hr1, _⟩, hC1, hB1, hK1⟩;replace hr1 := hr1 (by omega);have HC5 := mk_ hC1;have HB5 := mk_ hB1;have HK5 := mk_ (HK4.out.trans hK1 (.inl rfl));clear hC1 hB1 hK1 HC4 HB4 HK4 hx;obtain ⟨m, hm, hml⟩ := HX.out r hr0 hr1;have HM := mk_ hm;clear hm;go_wp2_with fail;refine (spec_cdPlane.calls 40 (4 + 2 * z) cs _ HCS.out).mono ?_;rintro e w6 ⟨v6, rfl, hR, hb⟩;obtain ⟨A6, c6, e6⟩ := Kd.R_slice hR;subst e6;have HC6 := mk_ (HC5.out.below hb);have HB6 := mk_ (below_step HB5.out hb);have HK6 := mk_ (keep_below HK5.out hb);have HR6 := mk_ (Kd.R_reads' hR);clear hR hb HC5 HB5 HK5;go_wp2_with fail;refine (spec_cdOfRank.calls 40 0 (4 + 2 * z) r A6 c6 cs m _ HR6.out.2.2 HR6.out.2.1 HM.out).mono ?_;rintro e w7 ⟨v7, rfl, hR, hb⟩;have HC7 := mk_ (HC6.out.below hb);have HB7 := mk_ (below_step HB6.out hb);have HK7 := mk_ (keep_below HK6.out hb);have HR7 := mk_ (set_made hR HK6.out (below_size HB6.out) hg);clear hR hb HC6 HB6 HK6;go_wp2;go_ret2;exact ⟨_, _, m, rfl, by omega, HC7.out.up (by omega), HB7.out, HK7.out, HR7.out⟩
      ·have b4 : (q == 4) = false := beq_eq_false_iff_ne.2 (by omega);have b5 : (q == 5) = true := beq_iff_eq.2 q4;clear q4;go_wp2_with fail;refine (pick_calls w0 _ g (N + 4 + 4 * 9 + 2) 5 HC2.out HB2.out (by omega)).mono ?_;rintro e w3 ⟨z, rfl, ⟨hz0, hz1, _⟩, hC1, hB1, hK1⟩;replace hz1 := hz1 (by omega);have HC3 := mk_ hC1;have HB3 := mk_ hB1;have HK3 := mk_ (HK2.out.trans hK1 (.inl rfl));clear hC1 hB1 hK1 HC2 HB2 HK2 HR2;obtain ⟨cs, hcs, hcl, hc1, hof⟩ := plane_set z hz0 hz1;have HCS := mk_ hcs;have HOF := mk_ hof;clear hcs hof;go_wp2_with fail;refine (spec_cdPlane.calls 40 (4 + 2 * z) cs _ HCS.out).mono ?_;rintro e w4 ⟨v4, rfl, hR, hb⟩;obtain ⟨A4, c4, e4⟩ := Kd.R_slice hR;subst e4;have HC4 := mk_ (HC3.out.below hb);have HB4 := mk_ (below_step HB3.out hb);have HK4 := mk_ (keep_below HK3.out hb);have hR' := (Kd.R_reads' hR).2.2;obtain ⟨ad, e4, hx⟩ := Kd.at_int hR' (4 + 2 * z) (by omega) (by omega);cases e4;have HX := mk_ (HOF.out);clear hR hR' hb HC3 HB3 HK3;have hcp : (4 + 2 * z < (cs.length : Int)) = True := eq_true (by omega);generalize rd cs (4 + 2 * z) = y at hx hc1 HX;go_wp2_with fail;refine (pick_calls w0 _ g (N + 4 + 4 * 9 + 4) y HC4.out HB4.out (by omega)).mono ?_;rintro e w5 ⟨r, rfl, ⟨hr0, hr1, _⟩, hC1, hB1, hK1⟩;replace hr1 := hr1 (by omega);have HC5 := mk_ hC1;have HB5 := mk_ hB1;have HK5 := mk_ (HK4.out.trans hK1 (.inl rfl));clear hC1 hB1 hK1 HC4 HB4 HK4 hx;obtain ⟨m, hm, hml⟩ := HX.out r hr0 hr1;have HM := mk_ hm;clear hm;go_wp2_with fail;refine (spec_cdPlane.calls 40 (4 + 2 * z) cs _ HCS.out).mono ?_;rintro e w6 ⟨v6, rfl, hR, hb⟩;obtain ⟨A6, c6, e6⟩ := Kd.R_slice hR;subst e6;have HC6 := mk_ (HC5.out.below hb);have HB6 := mk_ (below_step HB5.out hb);have HK6 := mk_ (keep_below HK5.out hb);have HR6 := mk_ (Kd.R_reads' hR);clear hR hb HC5 HB5 HK5;go_wp2_with fail;refine (spec_cdOfRank.calls 40 0 (4 + 2 * z) r A6 c6 cs m _ HR6.out.2.2 HR6.out.2.1 HM.out).mono ?_;rintro e w7 ⟨v7, rfl, hR, hb⟩;have HC7 := mk_ (HC6.out.below hb);have HB7 := mk_ (below_step HB6.out hb);have HK7 := mk_ (keep_below HK6.out hb);have HR7 := mk_ (set_made hR HK6.out (below_size HB6.out) hg);clear hR hb HC6 HB6 HK6;go_wp2;go_ret2;exact ⟨_, _, m, rfl, by omega, HC7.out.up (by omega), HB7.out, HK7.out, HR7.out⟩
     ·have b4 : (q == 4) = false := beq_eq_false_iff_ne.2 (by omega);have b5 : (q == 5) = false := beq_eq_false_iff_ne.2 (by omega);clear q0 q1 q2 q3 q4;go_wp2;go_ret2;exact ⟨_, _, l, rfl, by omega, HC2.out.up (by omega), HB2.out, HK2.out, HR2.out⟩
end Go.Proofs.YtnofekfoonmedaaGreatDoor.X
end
section
namespace Go.Proofs.YtnofekfoonmedaaGreatDoor.Q
open Go.RowKit Go.Proofs.YtnofekfoonmedaaGreatDoor.X Go.Proofs.YtnofekfoonmedaaGreatDoorW.PrintWords Go.Proofs.YtnofekfoonmedaaGreatDoorW.PrintLast Go.Proofs.YtnofekfoonmedaaGreatDoorW.PrintMore
set_option linter.unusedVariables false
set_option linter.unusedSimpArgs false
theorem l1In_eq (a b c : Int) : spec_l1In.f a b c = some (decide (b ≤ a ∧ a ≤ c)) := by
 unfold spec_l1In.f;by_cases h : a ≥ b
 ·rw [if_pos h]; exact congrArg some (decide_eq_decide.2 (by omega))
 ·rw [if_neg h]; exact congrArg some (decide_eq_false (by omega)).symm
theorem within_eq (a b c : Int) : impl_within.f a b c = some (decide (b ≤ a ∧ a ≤ c)) := by
 unfold impl_within.f;by_cases h : a ≥ b
 ·rw [if_pos h]; exact congrArg some (decide_eq_decide.2 (by omega))
 ·rw [if_neg h]; exact congrArg some (decide_eq_false (by omega)).symm
theorem srPoints_eq (a : Int) : spec_srPoints.f a = some (decide (3 ≤ a ∧ a ≤ 60)) := by
 unfold spec_srPoints.f; rw [l1In_eq]; rfl
theorem isCircle_eq (a : Int) : impl_isCircle.f a = some (decide (3 ≤ a ∧ a ≤ 60)) := by
 unfold impl_isCircle.f; rw [within_eq]; rfl
theorem ordL_c (l : List S39) : ordL l = Lib.compact (l.mergeSort fun x y => !cLt y x) := rfl
theorem compactUpTo_strict (d : Array S39) (hd : ∀ i j, i < j → j < d.size → ¬ cLt d[j]! d[i]! = true) : ∀ m, m ≤ d.size →
  Strict (Lib.compactUpTo d m) ∧ (∀ x, x ∈ Lib.compactUpTo d m ↔ ∃ j, j < m ∧ d[j]! = x)
 | 0, _ => ⟨by simp [Lib.compactUpTo, Strict], by simp [Lib.compactUpTo]⟩
 | m + 1, hm => by
  obtain ⟨h1, h2⟩ := compactUpTo_strict d hd m (by omega);rw [Lib.compactUpTo_succ];by_cases hk : Lib.keeps d m = true
  ·rw [if_pos hk];constructor
   ·unfold Strict at h1 ⊢;rw [List.pairwise_append];refine ⟨h1, by simp, ?_⟩;intro x hx y hy;obtain rfl : y = d[m]! := by simpa using hy
    obtain ⟨j, hj, rfl⟩ := (h2 x).1 hx;have hne : m = 0 ∨ d[m]! ≠ d[m - 1]! := by simpa [Lib.keeps] using hk
    have hne : d[m]! ≠ d[m - 1]! := hne.resolve_left (by omega);have a := hd (m - 1) m (by omega) (by omega)
    have b : ¬ cLt d[m - 1]! d[j]! = true := by
     by_cases e : j = m - 1
     ·subst e; rw [cLt_iff]; omega
     ·exact hd j (m - 1) (by omega) (by omega)
    rw [cLt_iff] at a b ⊢;have hne' : ¬ (d[m]!.f0 = d[m - 1]!.f0 ∧ d[m]!.f1 = d[m - 1]!.f1) := fun e => hne (chord_ext e.1 e.2)
    omega
   ·intro x;rw [List.mem_append, h2];constructor
    ·rintro (⟨j, hj, rfl⟩ | hx)
     ·exact ⟨j, by omega, rfl⟩
     ·exact ⟨m, by omega, by simpa [eq_comm] using hx⟩
    ·rintro ⟨j, hj, rfl⟩;by_cases e : j = m
     ·subst e; exact Or.inr (by simp)
     ·exact Or.inl ⟨j, by omega, rfl⟩
  ·rw [if_neg hk, List.append_nil];refine ⟨h1, fun x => ?_⟩;rw [h2];have hne : ¬ (m = 0 ∨ d[m]! ≠ d[m - 1]!) := by simpa [Lib.keeps] using hk
   have e0 : m ≠ 0 := fun e => hne (Or.inl e)
   have e1 : d[m]! = d[m - 1]! := Classical.byContradiction fun e => hne (Or.inr e)
   constructor
   ·rintro ⟨j, hj, rfl⟩; exact ⟨j, by omega, rfl⟩
   ·rintro ⟨j, hj, rfl⟩;by_cases e : j = m
    ·subst e; exact ⟨j - 1, by omega, e1.symm⟩
    ·exact ⟨j, by omega, rfl⟩
theorem ordL_strict (l : List S39) : Strict (ordL l) ∧ ∀ x, x ∈ ordL l ↔ x ∈ l := by
 have hsort : (l.mergeSort fun x y => !cLt y x).Pairwise fun x y => (!cLt y x) = true := by
  apply List.pairwise_mergeSort
  ·intro a b c h1 h2;simp only [Bool.not_eq_true', ← Bool.not_eq_true] at h1 h2 ⊢;rw [cLt_iff] at h1 h2 ⊢;omega
  ·intro a b;by_cases h : cLt b a = true
   ·have : ¬ cLt a b = true := by rw [cLt_iff] at h ⊢; omega
    simp [h, this]
   ·simp [h]
 have hmem : ∀ x, x ∈ (l.mergeSort fun x y => !cLt y x) ↔ x ∈ l := fun x => List.mem_mergeSort
 rw [ordL_c];generalize (l.mergeSort fun x y => !cLt y x) = z at *
 have H := compactUpTo_strict z.toArray (by
  intro i j hij hj
  have hj' : j < z.length := by simpa using hj
  have := List.pairwise_iff_getElem.1 hsort i j (by omega) hj' hij
  have e1 : z.toArray[j]! = z[j] := by simp [hj']
  have e2 : z.toArray[i]! = z[i] := by simp [show i < z.length by omega]
  rw [e1, e2]
  simpa using this) z.length (by simp)
 unfold Lib.compact;refine ⟨H.1, fun x => ?_⟩;rw [H.2, ← hmem];constructor
 ·rintro ⟨j, hj, rfl⟩; simp [hj]
 ·intro hx;obtain ⟨j, hj, rfl⟩ := List.getElem_of_mem hx;exact ⟨j, hj, by simp [hj]⟩
theorem ordered_eq (l : List S39) (h : l.length ≤ 1000) : impl_ordered.f l = some (ordL l) := by unfold impl_ordered.f; rw [if_pos h]
theorem ordL_self (l : List S39) (h : Strict l) : ordL l = l := by
 obtain ⟨h3, h4⟩ := ordL_strict l;exact strict_unique _ _ h3 h h4
theorem planePoints_eq (a : Int) : spec_cdPlanePoints.f a = some (decide (4 ≤ a ∧ a ≤ 30 ∧ Int.tmod a 2 = 0)) := by
 unfold spec_cdPlanePoints.f;rw [l1In_eq];simp only [Option.bind_some];by_cases h : 4 ≤ a ∧ a ≤ 30
 ·rw [if_pos (decide_eq_true h)];refine congrArg some ?_;rw [Bool.eq_iff_iff]; simp; omega
 ·rw [if_neg (by simpa using h)];exact congrArg some (decide_eq_false (by omega)).symm
theorem isEven_eq (a b : Int) : impl_isEven.f a b = some (decide (3 ≤ a ∧ a ≤ 60 ∧ Int.tmod a 2 = 0 ∧ a ≤ b)) := by
 unfold impl_isEven.f;rw [isCircle_eq];simp only [Option.bind_some];by_cases h : 3 ≤ a ∧ a ≤ 60
 ·rw [if_pos (decide_eq_true h)];by_cases h2 : Int.tmod a 2 = 0
  ·rw [if_pos h2]; exact congrArg some (decide_eq_decide.2 (by omega))
  ·rw [if_neg h2]; exact congrArg some (decide_eq_false (by omega)).symm
 ·rw [if_neg (by simpa using h)];exact congrArg some (decide_eq_false (by omega)).symm
def cat (m : Nat) : Int := ([1, 1, 2, 5, 14, 42, 132, 429, 1430, 4862, 16796, 58786, 208012, 742900, 2674440, 9694845] : List Int).getD m 1
theorem more_fuel {α : Type} (F : Nat → Option α) (hF : ∀ k, LeO (F k) (F (k + 1))) (k0 : Nat) (r : α) (h : F k0 = some r) : ∀ k, k0 ≤ k → F k = some r := by
 intro k hk;obtain ⟨d, rfl⟩ : ∃ d, k = k0 + d := ⟨k - k0, by omega⟩;clear hk
 induction d with
 | zero => exact h
 | succ d ih => exact hF (k0 + d) r ih
theorem countPlane_at : ∀ m : Fin 16, impl_countPlane.f 20 (2 * (m.val : Int)) = some (cat m.val) := by decide +kernel
theorem countPlane_eq (m : Nat) (hm : m ≤ 15) (k : Nat) (hk : 20 ≤ k) : impl_countPlane.f k (2 * (m : Int)) = some (cat m) :=
 more_fuel (fun k => impl_countPlane.f k (2 * (m : Int))) (fun k => impl_countPlane.mono _ k) 20 _ (countPlane_at ⟨m, by omega⟩) k hk
def waysL (n : Nat) : List Int := (List.range (n + 1)).map fun i => if i % 2 = 0 then cat (i / 2) else 0
theorem cdPlane_at : ∀ m : Fin 14, spec_cdPlane.f 300 (2 * (m.val : Int) + 4) = some (waysL (2 * m.val + 4)) := by decide +kernel
theorem cdPlane_eq (m : Nat) (h2 : 2 ≤ m) (hm : m ≤ 15) (k : Nat) (hk : 300 ≤ k) : spec_cdPlane.f k (2 * (m : Int)) = some (waysL (2 * m)) := by
 have h := cdPlane_at ⟨m - 2, by omega⟩;simp only at h;have e : 2 * ((m - 2 : Nat) : Int) + 4 = 2 * (m : Int) := by omega
 have e2 : 2 * (m - 2) + 4 = 2 * m := by omega
 rw [e, e2] at h;exact more_fuel (fun k => spec_cdPlane.f k (2 * (m : Int))) (fun k => spec_cdPlane.mono _ k) 300 _ h k hk
theorem waysL_len (n : Nat) : (waysL n).length = n + 1 := by unfold waysL; simp
theorem waysL_rd (n j : Nat) (hj : 2 * j ≤ n) : rd (waysL n) (2 * (j : Int)) = cat j := by
 unfold rd waysL;have e : (2 * (j : Int)).toNat = 2 * j := by omega
 rw [e, List.getD_eq_getElem?_getD, List.getElem?_map, List.getElem?_range (by omega)];simp
theorem cat_pos_at : ∀ m : Fin 16, 1 ≤ cat m.val ∧ cat m.val ≤ 10000000 := by decide +kernel
theorem cat_pos (m : Nat) (hm : m ≤ 15) : 1 ≤ cat m ∧ cat m ≤ 10000000 := cat_pos_at ⟨m, by omega⟩
theorem cat_mul (i j : Nat) (hi : i ≤ 15) (hj : j ≤ 15) : 1 ≤ cat i * cat j ∧ cat i * cat j ≤ 100000000000000 := by
 obtain ⟨a, b⟩ := cat_pos i hi;obtain ⟨c, d⟩ := cat_pos j hj;constructor
 ·have := Int.mul_le_mul a c (by omega) (by omega); omega
 ·have := Int.mul_le_mul b d (by omega) (by omega); omega
def tot (m : Nat) : Nat → Nat → Int
 | 0, _ => 0
 | t + 1, j => cat j * cat (m - 1 - j) + tot m t (j + 1)
theorem tot_at : ∀ m : Fin 15, tot (m.val + 1) (m.val + 1) 0 = cat (m.val + 1) := by decide +kernel
theorem tot_eq (m : Nat) (h1 : 1 ≤ m) (hm : m ≤ 15) : tot m m 0 = cat m := by
 have := tot_at ⟨m - 1, by omega⟩;simp only at this;rwa [show m - 1 + 1 = m by omega] at this
def pick (m : Nat) : Nat → Nat → Int → Nat × Int
 | 0, j, r => (j, r)
 | t + 1, j, r => if r < cat j * cat (m - 1 - j) then (j, r) else pick m t (j + 1) (r - cat j * cat (m - 1 - j))
theorem pick_spec (m : Nat) : ∀ (t j : Nat) (r : Int), 0 ≤ r → r < tot m t j → j ≤ (pick m t j r).1 ∧ (pick m t j r).1 < j + t ∧ 0 ≤ (pick m t j r).2 ∧ (pick m t j r).2 < cat (pick m t j r).1 * cat (m - 1 - (pick m t j r).1)
 | 0, j, r, h0, h1 => by simp only [tot] at h1; omega
 | t + 1, j, r, h0, h1 => by
  simp only [tot] at h1;unfold pick;by_cases h : r < cat j * cat (m - 1 - j)
  ·rw [if_pos h]; exact ⟨Nat.le_refl _, by simp only; omega, h0, h⟩
  ·rw [if_neg h];obtain ⟨a, b, c, d⟩ := pick_spec m t (j + 1) (r - cat j * cat (m - 1 - j)) (by omega) (by omega);exact ⟨by omega, by omega, c, d⟩
def plF : Nat → Nat → Int → Int → List S39
 | 0, _, _, _ => []
 | d + 1, m, a, r => if m = 0 then [] else ⟨a, a + (2 * ((pick m m 0 r).1 : Int) + 1)⟩ :: (plF d (pick m m 0 r).1 (a + 1) ((pick m m 0 r).2 / cat (m - 1 - (pick m m 0 r).1)) ++ plF d (m - 1 - (pick m m 0 r).1) (a + (2 * ((pick m m 0 r).1 : Int) + 2)) ((pick m m 0 r).2 % cat (m - 1 - (pick m m 0 r).1)))
theorem parts_in {x y r : Int} (hx : 1 ≤ x) (hy : 1 ≤ y) (h0 : 0 ≤ r) (h1 : r < x * y) : (0 ≤ r / y ∧ r / y < x) ∧ 0 ≤ r % y ∧ r % y < y :=
 ⟨⟨Int.ediv_nonneg h0 (by omega), Int.ediv_lt_of_lt_mul (by omega) h1⟩, Int.emod_nonneg _ (by omega), Int.emod_lt_of_pos _ (by omega)⟩
theorem plF_ok : ∀ (d m : Nat) (a r : Int), m ≤ d → m ≤ 15 → 0 ≤ r → r < cat m → Strict (plF d m a r) ∧ (∀ c ∈ plF d m a r, a ≤ c.f0 ∧ c.f0 < a + 2 * m) ∧ (plF d m a r).length = m
 | 0, m, a, r, hd, _, _, _ => by
  obtain rfl : m = 0 := by omega
  simp [plF, Strict]
 | d + 1, m, a, r, hd, hm, h0, h1 => by
  by_cases hz : m = 0
  ·subst hz; simp [plF, Strict]
  ·have ht := tot_eq m (by omega) hm;obtain ⟨p1, p2, p3, p4⟩ := pick_spec m m 0 r h0 (by rw [ht]; exact h1);unfold plF;rw [if_neg hz];generalize pick m m 0 r = p at *;obtain ⟨j, q⟩ := p;simp only at p1 p2 p3 p4 ⊢;have c1 := cat_pos j (by omega);have c2 := cat_pos (m - 1 - j) (by omega);obtain ⟨⟨q1, q2⟩, q3, q4⟩ := parts_in c1.1 c2.1 p3 p4;obtain ⟨s1, s2, s3⟩ := plF_ok d j (a + 1) (q / cat (m - 1 - j)) (by omega) (by omega) q1 q2;obtain ⟨s4, s5, s6⟩ := plF_ok d (m - 1 - j) (a + (2 * (j : Int) + 2)) (q % cat (m - 1 - j)) (by omega) (by omega) q3 q4;refine ⟨?_, ?_, ?_⟩
   ·unfold Strict at s1 s4 ⊢;rw [List.pairwise_cons, List.pairwise_append];refine ⟨fun c hc => ?_, s1, s4, fun x hx y hy => ?_⟩
    ·rw [cLt_iff];rcases List.mem_append.1 hc with e | e
     ·have := s2 c e; left; simp only; omega
     ·have := s5 c e; left; simp only; omega
    ·rw [cLt_iff];have := s2 x hx;have := s5 y hy;left; omega
   ·intro c hc;rcases List.mem_cons.1 hc with e | e
    ·subst e; simp only; omega
    ·rcases List.mem_append.1 e with e | e
     ·have := s2 c e; omega
     ·have := s5 c e; omega
   ·rw [List.length_cons, List.length_append, s3, s6]; omega
def prt (h : Nat) : Nat → Int
 | 0 => 0
 | i + 1 => prt h i + cat i * cat (h - 1 - i)
theorem prt_at : ∀ h : Fin 16, ∀ i : Fin 16, i.val < h.val → 0 ≤ prt h.val i.val ∧ prt h.val (i.val + 1) ≤ cat h.val := by decide +kernel
theorem prt_le (h i : Nat) (hh : h ≤ 15) (hi : i < h) : 0 ≤ prt h i ∧ prt h (i + 1) ≤ cat h := prt_at ⟨h, by omega⟩ ⟨i, by omega⟩ hi
theorem prt_mono (h : Nat) (hh : h ≤ 15) (j : Nat) : ∀ d, j + d ≤ h → prt h j ≤ prt h (j + d)
 | 0, _ => Int.le_refl _
 | d + 1, hd => by
  have h1 := prt_mono h hh j d (by omega);have h2 := cat_mul (j + d) (h - 1 - (j + d)) (by omega) (by omega);have h3 : prt h (j + (d + 1)) = prt h (j + d) + cat (j + d) * cat (h - 1 - (j + d)) := rfl;omega
theorem pick_at (h : Nat) (hh : h ≤ 15) (i : Nat) (hi : i < h) (q : Int) (h0 : 0 ≤ q) (h1 : q < cat i * cat (h - 1 - i)) : ∀ (d j t : Nat), j + d = i → d < t → pick h t j (prt h i - prt h j + q) = (i, q)
 | 0, j, t, hj, ht => by
  obtain ⟨t, rfl⟩ : ∃ u, t = u + 1 := ⟨t - 1, by omega⟩;obtain rfl : j = i := by omega
  unfold pick;rw [show prt h j - prt h j + q = q by omega, if_pos h1]
 | d + 1, j, t, hj, ht => by
  obtain ⟨t, rfl⟩ : ∃ u, t = u + 1 := ⟨t - 1, by omega⟩;have h2 := prt_mono h hh (j + 1) d (by omega);have h3 : prt h (j + 1) = prt h j + cat j * cat (h - 1 - j) := rfl;rw [show j + 1 + d = i by omega] at h2;unfold pick;rw [if_neg (by omega), show prt h i - prt h j + q - cat j * cat (h - 1 - j) = prt h i - prt h (j + 1) + q by omega];exact pick_at h hh i hi q h0 h1 d (j + 1) t (by omega) (by omega)
theorem pick_sum (m : Nat) : ∀ (t j : Nat) (r : Int), prt m (pick m t j r).1 + (pick m t j r).2 = prt m j + r
 | 0, j, r => rfl
 | t + 1, j, r => by
  have h3 : prt m (j + 1) = prt m j + cat j * cat (m - 1 - j) := rfl;have ih := pick_sum m t (j + 1) (r - cat j * cat (m - 1 - j));unfold pick;split
  ·rfl
  ·omega
theorem plF_at (D h i g : Nat) (a r1 r2 : Int) (hh : h = i + g + 1) (hm : h ≤ 15) (hr1 : 0 ≤ r1 ∧ r1 < cat i) (hr2 : 0 ≤ r2 ∧ r2 < cat g) : plF (D + 1) h a (prt h i + r1 * cat g + r2) = ⟨a, a + (2 * (i : Int) + 1)⟩ :: (plF D i (a + 1) r1 ++ plF D g (a + (2 * (i : Int) + 2)) r2) := by
 have hg := cat_pos g (by omega);have e : h - 1 - i = g := by omega
 have hm2 : r1 * cat g + cat g ≤ cat i * cat g := by
  have := Int.mul_le_mul_of_nonneg_right (show r1 + 1 ≤ cat i by omega) (show 0 ≤ cat g by omega);rwa [Int.add_mul, Int.one_mul] at this
 have hm0 : 0 ≤ r1 * cat g := Int.mul_nonneg hr1.1 (by omega);have hp := pick_at h hm i (by omega) (r1 * cat g + r2) (by omega) (by rw [e]; omega) i 0 h (by omega) (by omega);have hz : prt h 0 = 0 := rfl;rw [hz, show prt h i - 0 + (r1 * cat g + r2) = prt h i + r1 * cat g + r2 by omega] at hp
 have e1 : (r1 * cat g + r2) / cat g = r1 := by
  rw [Int.add_comm, Int.add_mul_ediv_right _ _ (by omega), Int.ediv_eq_zero_of_lt hr2.1 hr2.2, Int.zero_add]
 have e2 : (r1 * cat g + r2) % cat g = r2 := by
  rw [Int.add_comm, Int.add_mul_emod_self_right, Int.emod_eq_of_lt hr2.1 hr2.2]
 simp only [plF];rw [if_neg (by omega), hp];simp only;rw [e, e1, e2]
theorem plF_split (h : Nat) (h1 : 1 ≤ h) (hm : h ≤ 15) (r : Int) (h0 : 0 ≤ r) (hr : r < cat h) : ∃ (i g : Nat) (r1 r2 : Int), h = i + g + 1 ∧ (0 ≤ r1 ∧ r1 < cat i) ∧ (0 ≤ r2 ∧ r2 < cat g) ∧ r = prt h i + r1 * cat g + r2 := by
 obtain ⟨p1, p2, p3, p4⟩ := pick_spec h h 0 r h0 (by rw [tot_eq h h1 hm]; exact hr);have hs := pick_sum h h 0 r;generalize pick h h 0 r = p at *;obtain ⟨i, q⟩ := p;simp only at p1 p2 p3 p4 hs;have c1 := cat_pos i (by omega);have c2 := cat_pos (h - 1 - i) (by omega);obtain ⟨q1, q2⟩ := parts_in c1.1 c2.1 p3 p4;refine ⟨i, h - 1 - i, _, _, by omega, q1, q2, ?_⟩;have hz : prt h 0 = 0 := rfl;have := Int.ediv_mul_add_emod q (cat (h - 1 - i));omega
theorem plF_zero (D : Nat) (a r : Int) : plF D 0 a r = [] := by
 cases D with
 | zero => rfl
 | succ D => exact if_pos rfl
theorem plF_inj : ∀ (d m : Nat) (a r s : Int), m ≤ d → m ≤ 15 → (0 ≤ r ∧ r < cat m) → (0 ≤ s ∧ s < cat m) → plF d m a r = plF d m a s → r = s := by
 intro d
 induction d with
 | zero =>
  intro m a r s hd _ h0 h1 _;obtain rfl : m = 0 := by omega
  have : cat 0 = 1 := rfl;omega
 | succ d ih =>
  intro m a r s hd hm h0 h1 h;by_cases hz : m = 0
  ·subst hz;have : cat 0 = 1 := rfl;omega
  ·obtain ⟨i, g, r1, r2, e, q1, q2, rfl⟩ := plF_split m (by omega) hm r h0.1 h0.2;obtain ⟨i', g', s1, s2, e', t1, t2, rfl⟩ := plF_split m (by omega) hm s h1.1 h1.2;rw [plF_at d m i g a r1 r2 e hm q1 q2, plF_at d m i' g' a s1 s2 e' hm t1 t2] at h;injection h with hh ht
   injection hh with _ hi
   obtain rfl : i = i' := by omega
   obtain rfl : g = g' := by omega
   have l1 := (plF_ok d i (a + 1) r1 (by omega) (by omega) q1.1 q1.2).2.2;have l2 := (plF_ok d i (a + 1) s1 (by omega) (by omega) t1.1 t1.2).2.2;obtain ⟨ha, hb⟩ := List.append_inj ht (by rw [l1, l2]);rw [ih i _ r1 s1 (by omega) (by omega) q1 t1 ha, ih g _ r2 s2 (by omega) (by omega) q2 t2 hb]
def NX (c d : S39) : Prop := ¬ (c.f0 < d.f0 ∧ d.f0 < c.f1 ∧ c.f1 < d.f1) ∧ ¬ (d.f0 < c.f0 ∧ c.f0 < d.f1 ∧ d.f1 < c.f1)
def ends (l : List S39) (p : Int) : Nat := l.countP (fun c => decide (c.f0 = p)) + l.countP (fun c => decide (c.f1 = p))
theorem ends_cons (c : S39) (l : List S39) (p : Int) : ends (c :: l) p = (if c.f0 = p then 1 else 0) + (if c.f1 = p then 1 else 0) + ends l p := by
 unfold ends;rw [List.countP_cons, List.countP_cons];simp only [decide_eq_true_eq];omega
theorem ends_app (l m : List S39) (p : Int) : ends (l ++ m) p = ends l p + ends m p := by
 unfold ends;rw [List.countP_append, List.countP_append];omega
theorem ends_none (l : List S39) (p : Int) (h : ∀ c ∈ l, c.f0 ≠ p ∧ c.f1 ≠ p) : ends l p = 0 := by
 unfold ends;rw [List.countP_eq_zero.2 (fun c hc => by simpa using (h c hc).1), List.countP_eq_zero.2 (fun c hc => by simpa using (h c hc).2)]
theorem plF_all : ∀ (d m : Nat) (a r : Int), m ≤ d → m ≤ 15 → 0 ≤ r → r < cat m → (∀ c ∈ plF d m a r, a ≤ c.f0 ∧ c.f0 < c.f1 ∧ c.f1 < a + 2 * m) ∧ (∀ c ∈ plF d m a r, ∀ e ∈ plF d m a r, NX c e) ∧ ∀ p : Int, a ≤ p → p < a + 2 * m → ends (plF d m a r) p = 1 := by
 intro d
 induction d with
 | zero =>
  intro m a r hd _ _ _;obtain rfl : m = 0 := by omega
  rw [plF_zero];exact ⟨by simp, by simp, fun p h0 h1 => by omega⟩
 | succ d ih =>
  intro m a r hd hm h0 h1;by_cases hz : m = 0
  ·subst hz;rw [plF_zero];exact ⟨by simp, by simp, fun p h0 h1 => by omega⟩
  ·obtain ⟨i, g, r1, r2, e, q1, q2, rfl⟩ := plF_split m (by omega) hm r h0 h1;rw [plF_at d m i g a r1 r2 e hm q1 q2];obtain ⟨a1, b1, c1⟩ := ih i (a + 1) r1 (by omega) (by omega) q1.1 q1.2;obtain ⟨a2, b2, c2⟩ := ih g (a + (2 * (i : Int) + 2)) r2 (by omega) (by omega) q2.1 q2.2;generalize plF d i (a + 1) r1 = L1 at *;generalize plF d g (a + (2 * (i : Int) + 2)) r2 = L2 at *;refine ⟨fun c hc => ?_, fun c hc e he => ?_, fun p p0 p1 => ?_⟩
   ·rcases List.mem_cons.1 hc with z | z
    ·subst z; simp only; omega
    ·rcases List.mem_append.1 z with z | z
     ·have := a1 c z; omega
     ·have := a2 c z; omega
   ·unfold NX;rcases List.mem_cons.1 hc with z | z <;> rcases List.mem_cons.1 he with y | y
    ·subst z; subst y; simp only; omega
    ·subst z;rcases List.mem_append.1 y with y | y
     ·have := a1 e y; simp only; omega
     ·have := a2 e y; simp only; omega
    ·subst y;rcases List.mem_append.1 z with z | z
     ·have := a1 c z; simp only; omega
     ·have := a2 c z; simp only; omega
    ·rcases List.mem_append.1 z with z | z <;> rcases List.mem_append.1 y with y | y
     ·exact b1 c z e y
     ·have := a1 c z; have := a2 e y; omega
     ·have := a2 c z; have := a1 e y; omega
     ·exact b2 c z e y
   ·rw [ends_cons, ends_app];simp only;by_cases k0 : p = a
    ·rw [if_pos (by omega), if_neg (by omega), ends_none L1 p (fun c hc => by have := a1 c hc; omega), ends_none L2 p (fun c hc => by have := a2 c hc; omega)]
    ·rw [if_neg (by omega)];by_cases k1 : p < a + (2 * (i : Int) + 1)
     ·rw [if_neg (by omega), c1 p (by omega) (by omega), ends_none L2 p (fun c hc => by have := a2 c hc; omega)]
     ·by_cases k2 : p = a + (2 * (i : Int) + 1)
      ·rw [if_pos (by omega), ends_none L1 p (fun c hc => by have := a1 c hc; omega), ends_none L2 p (fun c hc => by have := a2 c hc; omega)]
      ·rw [if_neg (by omega), ends_none L1 p (fun c hc => by have := a1 c hc; omega), c2 p (by omega) (by omega)]
def crossB (c d : S39) : Bool := spec_srCross.b c.f0 c.f1 d.f0 d.f1
theorem srCross_cross (c d : S39) : spec_srCross.f c.f0 c.f1 d.f0 d.f1 = some (crossB c d) := rfl
theorem crossB_iff (n : Int) (c d : S39) (hc : Proper n c) (hd : Proper n d) : crossB c d = true ↔ (c.f0 < d.f0 ∧ d.f0 < c.f1 ∧ c.f1 < d.f1) ∨ (d.f0 < c.f0 ∧ c.f0 < d.f1 ∧ d.f1 < c.f1) := by
 unfold Proper at hc hd;unfold crossB spec_srCross.b;simp only [Bool.and_eq_true, Bool.not_eq_true', Bool.or_eq_false_iff, beq_eq_false_iff_ne, bne_iff_ne, ne_eq, ← Bool.decide_and];rw [decide_eq_decide];omega
theorem crossing_eq (n : Int) (c d : S39) (hc : Proper n c) (hd : Proper n d) : impl_crossing.f c.f0 c.f1 d.f0 d.f1 = some (crossB c d) := by
 have h := crossB_iff n c d hc hd;unfold Proper at hc hd;unfold impl_crossing.f;by_cases e : crossB c d = true
 ·have h1 := h.1 e;rw [e];rcases h1 with h1 | h1
  ·rw [if_pos (by omega), if_pos (by omega), if_pos (by omega)]
  ·rw [if_neg (by omega), if_pos (by omega), if_pos (by omega), decide_eq_true (by omega)]
 ·have h1 : ¬ ((c.f0 < d.f0 ∧ d.f0 < c.f1 ∧ c.f1 < d.f1) ∨ (d.f0 < c.f0 ∧ c.f0 < d.f1 ∧ d.f1 < c.f1)) := fun x => e (h.2 x)
  rw [Bool.eq_false_iff.2 e];repeat' split
  all_goals first | rfl | (exfalso; omega) | (refine congrArg some (decide_eq_false ?_); omega)
theorem crossB_symm (n : Int) (c d : S39) (hc : Proper n c) (hd : Proper n d) : crossB c d = crossB d c := by
 rw [Bool.eq_iff_iff, crossB_iff n c d hc hd, crossB_iff n d c hd hc];omega
def countX (c : S39) (l : List S39) : Nat := l.countP (crossB c)
theorem crossed_loop (n : Int) (c : S39) (hc : Proper n c) (m : List S39) : ∀ (k : Nat) (pre : List S39) (cnt : Int), (∀ x ∈ m, Proper n x) → pre.length + m.length ≤ 1000000 → 0 ≤ cnt → cnt + m.length ≤ 4611686018427387904 → m.length < k →
  impl_crossed.l0 k cnt (pre ++ m) ((pre ++ m).length : Int) pre.length c.f0 c.f1 = some (cnt + countX c m) := by
 induction m with
 | nil =>
  intro k pre cnt _ hl h0 h1 hk;obtain ⟨k, rfl⟩ : ∃ t, k = t + 1 := ⟨k - 1, by omega⟩;simp only [impl_crossed.l0, List.append_nil];rw [if_neg (by omega)];simp [countX]
 | cons x m ih =>
  intro k pre cnt hp hl h0 h1 hk;obtain ⟨k, rfl⟩ : ∃ t, k = t + 1 := ⟨k - 1, by omega⟩;simp only [List.length_cons] at hl h1 hk;have hlen : ((pre ++ x :: m).length : Int) = pre.length + m.length + 1 := by simp; omega
  simp only [impl_crossed.l0];rw [if_pos (by omega), if_pos (by omega), if_pos (by omega), rdC_append, crossing_eq n c x hc (hp x (by simp))];simp only [Option.bind_some];have IH := fun cnt h0 h1 => ih k (pre ++ [x]) cnt (fun y hy => hp y (by simp [hy])) (by simp; omega) h0 h1 (by omega)
  simp only [List.append_assoc, List.cons_append, List.nil_append] at IH;have hpl : (((pre ++ [x]).length : Nat) : Int) = (pre.length : Int) + 1 := by simp
  rw [hpl] at IH;rw [wrap64_id (x := cnt + 1) (by omega) (by omega), wrap64_id (by omega) (by omega)];unfold countX at IH ⊢;by_cases e : crossB c x = true
  ·rw [if_pos e, IH (cnt + 1) (by omega) (by omega), List.countP_cons_of_pos e];congr 1; omega
  ·rw [if_neg e, IH cnt (by omega) (by omega), List.countP_cons_of_neg e]
theorem crossed_eq (n : Int) (c : S39) (hc : Proper n c) (m : List S39) (hm : ∀ x ∈ m, Proper n x) (hl : m.length ≤ 1000000) (k : Nat) (hk : m.length < k) : impl_crossed.f k m c.f0 c.f1 = some (countX c m : Int) := by
 unfold impl_crossed.f;have := crossed_loop n c hc m k [] 0 hm (by simpa using hl) (by omega) (by omega) hk;simpa using this
theorem countX_le (c : S39) (l : List S39) : countX c l ≤ l.length := List.countP_le_length
def pairsX : List S39 → Nat
 | [] => 0
 | x :: l => countX x l + pairsX l
theorem pairsX_snoc (n : Int) (x : S39) (hx : Proper n x) : ∀ (l : List S39), (∀ y ∈ l, Proper n y) → pairsX (l ++ [x]) = pairsX l + countX x l
 | [], _ => by simp [pairsX, countX]
 | y :: l, h => by
  have ih := pairsX_snoc n x hx l (fun z hz => h z (by simp [hz]));simp only [List.cons_append, pairsX, ih];have e := crossB_symm n x y hx (h y (by simp));unfold countX;rw [List.countP_append, List.countP_cons, List.countP_cons, e];simp only [List.countP_nil, Nat.zero_add];omega
theorem pairsX_le : ∀ (l : List S39), pairsX l ≤ l.length * l.length
 | [] => by simp [pairsX]
 | x :: l => by
  have h1 := pairsX_le l;have h2 := countX_le x l;simp only [pairsX, List.length_cons];rw [Nat.add_mul, Nat.mul_add];omega
theorem crossings_loop (n : Int) (m : List S39) : ∀ (k : Nat) (pre : List S39), (∀ x ∈ pre ++ m, Proper n x) → pre.length + m.length ≤ 1000000 → pre.length + m.length + m.length < k →
  impl_crossings.l0 k (pre ++ m) (pairsX pre) (pre ++ m) ((pre ++ m).length : Int) pre.length = some (pairsX (pre ++ m) : Int) := by
 induction m with
 | nil =>
  intro k pre hp hl hk;obtain ⟨k, rfl⟩ : ∃ t, k = t + 1 := ⟨k - 1, by omega⟩;simp only [impl_crossings.l0, List.append_nil];rw [if_neg (by omega)]
 | cons x m ih =>
  intro k pre hp hl hk;obtain ⟨k, rfl⟩ : ∃ t, k = t + 1 := ⟨k - 1, by omega⟩;simp only [List.length_cons] at hl hk;have hlen : ((pre ++ x :: m).length : Int) = pre.length + m.length + 1 := by simp; omega
  simp only [impl_crossings.l0];have hpre : ∀ y ∈ pre, Proper n y := fun y hy => hp y (by simp [hy])
  have hx : Proper n x := hp x (by simp);rw [if_pos (by omega), if_pos (by omega), if_pos (by omega), if_pos (by omega), rdC_append, Int.toNat_natCast, List.take_left, crossed_eq n x hx pre hpre (by omega) k (by omega)];simp only [Option.bind_some];have h1 := pairsX_le pre;have h2 := countX_le x pre;have h3 : pre.length * pre.length ≤ 1000000 * 1000000 := Nat.mul_le_mul (by omega) (by omega);have IH := ih k (pre ++ [x]) (by simpa using hp) (by simp; omega) (by simp; omega);rw [pairsX_snoc n x hx pre hpre] at IH;simp only [List.append_assoc, List.cons_append, List.nil_append] at IH;have hpl : (((pre ++ [x]).length : Nat) : Int) = (pre.length : Int) + 1 := by simp
  rw [hpl, Int.natCast_add] at IH;rw [wrap64_id (by omega) (by omega), wrap64_id (by omega) (by omega)];exact IH
theorem crossings_eq (n : Int) (l : List S39) (h : ∀ x ∈ l, Proper n x) (hl : l.length ≤ 1000000) (k : Nat) (hk : l.length + l.length < k) : impl_crossings.f k l = some (pairsX l : Int) := by
 unfold impl_crossings.f;have := crossings_loop n l k [] (by simpa using h) (by simpa using hl) (by simpa using hk);simpa [pairsX] using this
def rowP (c : S39) (i : Int) : Int → List S39 → List (List Int)
 | _, [] => []
 | j, x :: m => if crossB c x = true then [i, j] :: rowP c i (j + 1) m else rowP c i (j + 1) m
def allP : Int → List S39 → List (List Int)
 | _, [] => []
 | i, c :: m => rowP c i (i + 1) m ++ allP (i + 1) m
theorem rowP_len (c : S39) (i : Int) : ∀ (m : List S39) (j : Int), (rowP c i j m).length = countX c m
 | [], _ => rfl
 | x :: m, j => by
  unfold rowP countX;by_cases e : crossB c x = true
  ·rw [if_pos e, List.countP_cons_of_pos e, List.length_cons, rowP_len c i m]; rfl
  ·rw [if_neg e, List.countP_cons_of_neg e, rowP_len c i m]; rfl
theorem allP_len : ∀ (m : List S39) (i : Int), (allP i m).length = pairsX m
 | [], _ => rfl
 | c :: m, i => by
  unfold allP pairsX;rw [List.length_append, rowP_len, allP_len m]
theorem cdPairs_inner (l : List S39) (hl : l.length ≤ 10000) (c : S39) (i : Int) (m : List S39) : ∀ (k : Nat) (pre : List S39) (acc : List (List Int)) (r : Option (List (List Int))), pre ++ m = l → acc.length + m.length ≤ 1000000000000 → m.length < k →
  (∀ k', k ≤ k' + m.length + 1 → k' < k → spec_cdPairs.l0 k' l (acc ++ rowP c i pre.length m) l (l.length : Int) (wrap64 (i + 1)) = r) →
  spec_cdPairs.l1 k l acc i pre.length l (l.length : Int) i c.f0 c.f1 = r := by
 induction m with
 | nil =>
  intro k pre acc r e h0 hk hr;obtain ⟨k, rfl⟩ : ∃ t, k = t + 1 := ⟨k - 1, by omega⟩;rw [List.append_nil] at e;subst e;simp only [spec_cdPairs.l1];rw [if_neg (by omega)];simpa [rowP] using hr k (by simp) (by omega)
 | cons x m ih =>
  intro k pre acc r e h0 hk hr;obtain ⟨k, rfl⟩ : ∃ t, k = t + 1 := ⟨k - 1, by omega⟩;simp only [List.length_cons] at h0 hk hr;have hlen : (l.length : Int) = pre.length + m.length + 1 := by rw [← e]; simp; omega
  simp only [spec_cdPairs.l1];have hx : rd_T39 l (pre.length : Int) = x := by rw [← e]; exact rdC_append pre m x
  rw [if_pos (by omega), if_pos (by omega), hx, srCross_cross];simp only [Option.bind_some];have hpl : (((pre ++ [x]).length : Nat) : Int) = (pre.length : Int) + 1 := by simp
  have IH := fun acc h0 hr => ih k (pre ++ [x]) acc r (by simpa using e) h0 (by omega) hr
  rw [hpl] at IH;rw [wrap64_id (x := (pre.length : Int) + 1) (by omega) (by omega)];by_cases eX : crossB c x = true
  ·rw [if_pos eX, if_pos (by omega)];refine IH _ (by simp; omega) (fun k' h1 h2 => ?_);have := hr k' (by omega) (by omega);unfold rowP at this;rw [if_pos eX] at this;rw [List.append_assoc];exact this
  ·rw [if_neg eX];refine IH acc (by omega) (fun k' h1 h2 => ?_);have := hr k' (by omega) (by omega);unfold rowP at this;rw [if_neg eX] at this;exact this
theorem cdPairs_loop (l : List S39) (hl : l.length ≤ 10000) (m : List S39) : ∀ (k : Nat) (pre : List S39) (acc : List (List Int)), pre ++ m = l → acc.length + m.length * 10000 ≤ 1000000000 → m.length * (l.length + 3) < k →
  spec_cdPairs.l0 k l acc l (l.length : Int) pre.length = some (acc ++ allP pre.length m) := by
 induction m with
 | nil =>
  intro k pre acc e h0 hk;obtain ⟨k, rfl⟩ : ∃ t, k = t + 1 := ⟨k - 1, by omega⟩;rw [List.append_nil] at e;simp only [spec_cdPairs.l0];rw [if_neg (by rw [e]; omega)];simp [allP]
 | cons x m ih =>
  intro k pre acc e h0 hk;obtain ⟨k, rfl⟩ : ∃ t, k = t + 1 := ⟨k - 1, by omega⟩;have hlen : (l.length : Int) = pre.length + m.length + 1 := by rw [← e]; simp; omega
  simp only [spec_cdPairs.l0];have hx : rd_T39 l (pre.length : Int) = x := by rw [← e]; exact rdC_append pre m x
  rw [if_pos (by omega), if_pos (by omega), if_pos (by omega), hx, wrap64_id (x := (pre.length : Int) + 1) (by omega) (by omega)];simp only [List.length_cons] at h0 hk;have hmul : (m.length + 1) * (l.length + 3) = m.length * (l.length + 3) + (l.length + 3) := by rw [Nat.add_mul, Nat.one_mul]
  have hpl : (((pre ++ [x]).length : Nat) : Int) = (pre.length : Int) + 1 := by simp
  have hin := cdPairs_inner l hl x pre.length m k (pre ++ [x]) acc (some (acc ++ allP pre.length (x :: m))) (by simpa using e) (by omega) (by omega) (fun k' h2 h3 => by
   have h4 := countX_le x m
   have h5 := rowP_len x pre.length m ((pre ++ [x]).length : Int)
   have := ih k' (pre ++ [x]) (acc ++ rowP x pre.length ((pre ++ [x]).length : Int) m) (by simpa using e) (by rw [List.length_append, h5]; omega) (by omega)
   rw [hpl] at this ⊢
   rw [wrap64_id (by omega) (by omega), this]
   simp only [allP, List.append_assoc])
  rw [hpl] at hin;exact hin
theorem cdPairs_eq (l : List S39) (hl : l.length ≤ 10000) (k : Nat) (hk : l.length * (l.length + 3) < k) : spec_cdPairs.f k l = some (allP 0 l) := by
 unfold spec_cdPairs.f;have := cdPairs_loop l hl l k [] [] rfl (by simp; omega) hk;simpa using this
def isCh (n a b : Int) : Prop := 0 ≤ a ∧ a < b ∧ b < n
instance (n a b : Int) : Decidable (isCh n a b) := by unfold isCh; infer_instance
theorem srIs_eq (n a b : Int) (hn : 3 ≤ n ∧ n ≤ 60) : spec_srIs.f n a b = some (decide (isCh n a b)) := by
 unfold spec_srIs.f;rw [wrap64_id (by omega) (by omega), l1In_eq];simp only [Option.bind_some];by_cases h : 0 ≤ a ∧ a ≤ n - 1
 ·rw [if_pos (decide_eq_true h), l1In_eq, wrap64_id (by omega) (by omega)];simp only [Option.bind_some];refine congrArg some (decide_eq_decide.2 ?_);unfold isCh;omega
 ·rw [if_neg (by simpa using h)];refine congrArg some (decide_eq_false ?_).symm;unfold isCh;omega
theorem implIsChord_eq (n a b : Int) : impl_isChord.f n a b = some (decide (isCh n a b)) := by
 unfold impl_isChord.f;by_cases h1 : a ≥ 0
 ·rw [if_pos h1];by_cases h2 : a < b
  ·rw [if_pos h2];refine congrArg some (decide_eq_decide.2 ?_);unfold isCh;omega
  ·rw [if_neg h2];refine congrArg some (decide_eq_false ?_).symm;unfold isCh;omega
 ·rw [if_neg h1];refine congrArg some (decide_eq_false ?_).symm;unfold isCh;omega
theorem compare_eq (a b : Int) : cmp_Compare_int.f a b = some (if a < b then -1 else if a > b then 1 else 0) := by
 unfold cmp_Compare_int.f cmp_isNaN_int.f;simp;split
 ·rfl
 ·split <;> rfl
theorem compareChords_eq (x y : S39) (k : Nat) (hk : 4 ≤ k) : ∃ r : Int, impl_compareChords.f k x.f0 x.f1 y.f0 y.f1 = some r ∧ (r ≥ 0 ↔ ¬ cLt x y = true) := by
 unfold impl_compareChords.f;simp only [compare_eq, Option.bind_some];obtain ⟨k, rfl⟩ : ∃ t, k = t + 4 := ⟨k - 4, by omega⟩;have h0 : wrap64 (0 + 1) = 1 := wrap64_id (by omega) (by omega);have h1 : wrap64 (1 + 1) = 2 := wrap64_id (by omega) (by omega);simp only [cmp_Or_int.f, cmp_Or_int.l0, List.length_cons, List.length_nil, h0, h1, rd, cLt_iff];by_cases c0 : x.f0 < y.f0
 ·simp [c0]
 ·by_cases c1 : x.f0 > y.f0
  ·simp [c0, c1]; omega
  ·have e : x.f0 = y.f0 := by omega
   by_cases d0 : x.f1 < y.f1
   ·simp [e, d0]
   ·by_cases d1 : x.f1 > y.f1
    ·simp [e, d0, d1]
    ·simp [e, d0, d1]
def isChB (n : Int) (c : S39) : Bool := decide (isCh n c.f0 c.f1)
def okFrom (n : Int) : Option S39 → List S39 → Bool
 | _, [] => true
 | none, c :: l => isChB n c && okFrom n (some c) l
 | some p, c :: l => isChB n c && (cLt p c && okFrom n (some c) l)
theorem okFrom_spec (n : Int) : ∀ (l : List S39) (p : Option S39), okFrom n p l = true → Strict l ∧ (∀ c ∈ l, Proper n c) ∧ ∀ q, p = some q → ∀ c ∈ l, cLt q c = true
 | [], p, _ => ⟨by simp [Strict], by simp, by simp⟩
 | c :: l, p, h => by
  have h1 : isChB n c = true ∧ okFrom n (some c) l = true ∧ ∀ q, p = some q → cLt q c = true := by
   cases p with
   | none => simp only [okFrom, Bool.and_eq_true] at h; exact ⟨h.1, h.2, by simp⟩
   | some q => simp only [okFrom, Bool.and_eq_true] at h; exact ⟨h.1, h.2.2, fun q' e => by cases e; exact h.2.1⟩
  obtain ⟨a, b, c1⟩ := okFrom_spec n l (some c) h1.2.1;have c2 := c1 c rfl;refine ⟨?_, ?_, ?_⟩
  ·unfold Strict at a ⊢; rw [List.pairwise_cons]; exact ⟨c2, a⟩
  ·intro d hd;rcases List.mem_cons.1 hd with e | e
   ·subst e; exact (of_decide_eq_true h1.1 : isCh n d.f0 d.f1)
   ·exact b d e
  ·intro q e d hd;have h3 := h1.2.2 q e;rcases List.mem_cons.1 hd with e | e
   ·subst e; exact h3
   ·have h4 := c2 d e;rw [cLt_iff] at h3 h4 ⊢;omega
theorem okFrom_none (n : Int) (c : S39) (m : List S39) : okFrom n none (c :: m) = (isChB n c && okFrom n (some c) m) := rfl
theorem okFrom_some (n : Int) (p c : S39) (m : List S39) : okFrom n (some p) (c :: m) = (isChB n c && (cLt p c && okFrom n (some c) m)) := rfl
def lastO (pre : List S39) : Option S39 := pre.getLast?
theorem rd_last (pre m : List S39) (p : S39) : rd_T39 ((pre ++ [p]) ++ m) ((pre.length : Int) + 1 - 1) = p := by
 rw [show (pre.length : Int) + 1 - 1 = pre.length by omega, List.append_assoc];exact rdC_append pre m p
theorem cdGood_loop (n : Int) (hn : 3 ≤ n ∧ n ≤ 60) (m : List S39) : ∀ (k : Nat) (pre : List S39), pre.length + m.length ≤ 1000000000 → m.length < k →
  spec_cdGood.l0 k n (pre ++ m) (pre ++ m) ((pre ++ m).length : Int) pre.length = some (okFrom n (lastO pre) m) := by
 induction m with
 | nil =>
  intro k pre hl hk;obtain ⟨k, rfl⟩ : ∃ t, k = t + 1 := ⟨k - 1, by omega⟩;simp only [spec_cdGood.l0, List.append_nil];rw [if_neg (by omega)];simp [okFrom]
 | cons x m ih =>
  intro k pre hl hk;obtain ⟨k, rfl⟩ : ∃ t, k = t + 1 := ⟨k - 1, by omega⟩;simp only [List.length_cons] at hl hk;have hlen : ((pre ++ x :: m).length : Int) = pre.length + m.length + 1 := by simp; omega
  simp only [spec_cdGood.l0];rw [if_pos (by omega), if_pos (by omega), if_pos (by omega), rdC_append, srIs_eq n _ _ hn];simp only [Option.bind_some];have IH := ih k (pre ++ [x]) (by simp; omega) (by omega);simp only [List.append_assoc, List.cons_append, List.nil_append] at IH;have hpl : (((pre ++ [x]).length : Nat) : Int) = (pre.length : Int) + 1 := by simp
  have hla : lastO (pre ++ [x]) = some x := by unfold lastO; simp
  rw [hpl, hla] at IH;by_cases hc : isCh n x.f0 x.f1
  ·have hcB : isChB n x = true := decide_eq_true hc;rw [if_pos (decide_eq_true hc)];rcases List.eq_nil_or_concat pre with e | ⟨q, p, e⟩
   ·subst e;rw [if_neg (by simp)];rw [wrap64_id (by omega) (by omega), IH];have e1 : lastO ([] : List S39) = none := rfl;rw [e1, okFrom_none, hcB, Bool.true_and]
   ·rw [List.concat_eq_append] at e;subst e;have hql : (((q ++ [p]).length : Nat) : Int) = (q.length : Int) + 1 := by simp
    have hla2 : lastO (q ++ [p]) = some p := by unfold lastO; simp
    rw [if_pos (by omega), wrap64_id (by omega) (by omega), if_pos (by omega), if_pos (by omega), hql, rd_last, srLess_eq];simp only [Option.bind_some];have e0 : (⟨x.f0, x.f1⟩ : S39) = x := rfl;have e1 : (⟨p.f0, p.f1⟩ : S39) = p := rfl;rw [e0, e1, hla2, okFrom_some, hcB, Bool.true_and];rw [wrap64_id (by omega) (by omega)];rw [hql] at IH;by_cases hp : cLt p x = true
    ·rw [if_pos hp, IH, hp, Bool.true_and]
    ·rw [if_neg hp];simp [hp]
  ·have hcB : isChB n x = false := decide_eq_false hc;rw [if_neg (by simpa using hc)]
   cases hlo : lastO pre with
   | none => rw [okFrom_none, hcB]; rfl
   | some p => rw [okFrom_some, hcB]; rfl
def goodB (n : Int) (l : List S39) : Bool := decide (3 ≤ n ∧ n ≤ 60) && (decide (l.length ≤ 40) && okFrom n none l)
theorem cdGood_eq (n : Int) (l : List S39) (hl : l.length ≤ 1000000000) (k : Nat) (hk : l.length + 1 < k) : spec_cdGood.f k n l = some (goodB n l) := by
 unfold spec_cdGood.f goodB;rw [srPoints_eq];obtain ⟨k, rfl⟩ : ∃ t, k = t + 1 := ⟨k - 1, by omega⟩;simp only [Option.bind_some, spec_cdGood.j0];by_cases h : 3 ≤ n ∧ n ≤ 60
 ·rw [if_pos (decide_eq_true h), decide_eq_true h, Bool.true_and];by_cases h2 : l.length ≤ 40
  ·rw [if_neg (by simp; omega), decide_eq_true h2, Bool.true_and];exact cdGood_loop n h l k [] (by simpa using hl) (by omega)
  ·rw [if_pos (by simp; omega), decide_eq_false h2, Bool.false_and]
 ·rw [if_neg (by simpa using h), decide_eq_false h];rfl
theorem areChords_loop (n : Int) (hn : 3 ≤ n ∧ n ≤ 60) (m : List S39) : ∀ (k : Nat) (pre : List S39), pre.length + m.length ≤ 1000000000 → m.length + 4 < k →
  impl_AreChords.l0 k n (pre ++ m) (pre ++ m) ((pre ++ m).length : Int) pre.length = some (okFrom n (lastO pre) m && decide (pre.length + m.length ≤ 40)) := by
 induction m with
 | nil =>
  intro k pre hl hk;obtain ⟨k, rfl⟩ : ∃ t, k = t + 1 := ⟨k - 1, by omega⟩;simp only [impl_AreChords.l0, List.append_nil];rw [if_neg (by omega)];simp only [okFrom, Bool.true_and, List.length_nil, Nat.add_zero];exact congrArg some (decide_eq_decide.2 (by omega))
 | cons x m ih =>
  intro k pre hl hk;obtain ⟨k, rfl⟩ : ∃ t, k = t + 1 := ⟨k - 1, by omega⟩;simp only [List.length_cons] at hl hk;have hlen : ((pre ++ x :: m).length : Int) = pre.length + m.length + 1 := by simp; omega
  simp only [impl_AreChords.l0];rw [if_pos (by omega), if_pos (by omega), if_pos (by omega), rdC_append, implIsChord_eq];simp only [Option.bind_some];have IH := ih k (pre ++ [x]) (by simp; omega) (by omega);simp only [List.append_assoc, List.cons_append, List.nil_append] at IH;have hpl : (((pre ++ [x]).length : Nat) : Int) = (pre.length : Int) + 1 := by simp
  have hpn : (pre ++ [x]).length + m.length = pre.length + (x :: m).length := by simp; omega
  have hla : lastO (pre ++ [x]) = some x := by unfold lastO; simp
  rw [hpl, hla, hpn] at IH;by_cases hc : isCh n x.f0 x.f1
  ·have hcB : isChB n x = true := decide_eq_true hc;rw [if_pos (decide_eq_true hc)];rcases List.eq_nil_or_concat pre with e | ⟨q, p, e⟩
   ·subst e;rw [if_neg (by simp)];rw [wrap64_id (by omega) (by omega), IH];have e1 : lastO ([] : List S39) = none := rfl;rw [e1, okFrom_none, hcB, Bool.true_and]
   ·rw [List.concat_eq_append] at e;subst e;have hql : (((q ++ [p]).length : Nat) : Int) = (q.length : Int) + 1 := by simp
    have hla2 : lastO (q ++ [p]) = some p := by unfold lastO; simp
    rw [if_pos (by omega), wrap64_id (by omega) (by omega), if_pos (by omega), if_pos (by omega), hql, rd_last];obtain ⟨r, hr1, hr2⟩ := compareChords_eq p x k (by omega);rw [hr1];simp only [Option.bind_some];rw [hla2, okFrom_some, hcB, Bool.true_and];rw [wrap64_id (by omega) (by omega)];rw [hql] at IH;by_cases hp : cLt p x = true
    ·rw [if_neg (fun z => hr2.1 z hp), IH, hp, Bool.true_and]
    ·rw [if_pos (hr2.2 hp)];simp [hp]
  ·have hcB : isChB n x = false := decide_eq_false hc;rw [if_neg (by simpa using hc)]
   cases hlo : lastO pre with
   | none => rw [okFrom_none, hcB]; rfl
   | some p => rw [okFrom_some, hcB]; rfl
theorem areChords_eq (n : Int) (l : List S39) (hl : l.length ≤ 1000000000) (k : Nat) (hk : l.length + 4 < k) : impl_AreChords.f k n l = some (goodB n l) := by
 unfold impl_AreChords.f goodB;rw [within_eq];simp only [Option.bind_some];by_cases h : 3 ≤ n ∧ n ≤ 60
 ·rw [if_pos (decide_eq_true h), decide_eq_true h, Bool.true_and];have := areChords_loop n h l k [] (by simpa using hl) hk;simp only [List.nil_append, List.length_nil, Nat.zero_add] at this;rw [Bool.and_comm] at this;exact this
 ·rw [if_neg (by simpa using h), decide_eq_false h];rfl
theorem isSet_eq (n : Int) (l : List S39) (hl : l.length ≤ 1000000000) (k : Nat) (hk : l.length + 4 < k) : impl_isSet.f k n l = some (goodB n l) := by
 unfold impl_isSet.f;rw [isCircle_eq, areChords_eq n l hl k hk];simp only [Option.bind_some];by_cases h : 3 ≤ n ∧ n ≤ 60
 ·rw [if_pos (decide_eq_true h)]
 ·rw [if_neg (by simpa using h)];unfold goodB;rw [decide_eq_false h];rfl
theorem good_spec (n : Int) (l : List S39) (h : goodB n l = true) : (3 ≤ n ∧ n ≤ 60) ∧ l.length ≤ 40 ∧ Strict l ∧ ∀ c ∈ l, Proper n c := by
 unfold goodB at h;simp only [Bool.and_eq_true, decide_eq_true_eq] at h;obtain ⟨a, b, _⟩ := okFrom_spec n l none h.2.2;exact ⟨h.1, h.2.1, a, b⟩
theorem rd_set_same (x : List Int) (i : Nat) (v : Int) (hi : i < x.length) : rd (x.set i v) i = v := by
 unfold rd; simp [hi]
theorem rd_set_other (x : List Int) (i j : Nat) (v : Int) (hj : j ≠ i) : rd (x.set i v) j = rd x j := by
 unfold rd; simp [List.getElem?_set, Ne.symm hj]
def incL : List S39 → List Int → List Int
 | [], t => t
 | c :: l, t => incL l ((t.set c.f0.toNat (rd t c.f0 + 1)).set c.f1.toNat (rd t c.f1 + 1))
def allOne (t : List Int) : Bool := t.all fun x => x == 1
theorem rdN (t : List Int) (i : Nat) (hi : i < t.length) : t[i] = rd t (i : Int) := by
 unfold rd; simp [hi]
theorem allOne_iff (t : List Int) : allOne t = true ↔ ∀ i : Nat, i < t.length → rd t i = 1 := by
 unfold allOne;rw [List.all_eq_true];constructor
 ·intro h i hi;have := h t[i] (List.getElem_mem hi);rw [rdN] at this;simpa using this
 ·intro h x hx;obtain ⟨i, hi, rfl⟩ := List.getElem_of_mem hx;rw [rdN, h i hi]; rfl
theorem rd_two (t : List Int) (a b p : Nat) (u v : Int) (ha : a < t.length) (hb : b < t.length) (hab : a ≠ b) : rd ((t.set a u).set b v) p = if p = b then v else if p = a then u else rd t p := by
 by_cases h1 : p = b
 ·subst h1; rw [rd_set_same _ _ _ (by simpa using hb), if_pos rfl]
 ·rw [rd_set_other _ _ _ _ h1, if_neg h1];by_cases h2 : p = a
  ·subst h2; rw [rd_set_same _ _ _ ha, if_pos rfl]
  ·rw [rd_set_other _ _ _ _ h2, if_neg h2]
theorem incL_len : ∀ (m : List S39) (t : List Int), (incL m t).length = t.length
 | [], t => rfl
 | c :: m, t => by rw [incL, incL_len m]; simp
theorem incL_mono (n : Nat) : ∀ (m : List S39) (t : List Int), t.length = n → (∀ c ∈ m, Proper n c) → ∀ p : Nat, p < n → rd t p ≤ rd (incL m t) p
 | [], t, _, _, p, _ => Int.le_refl _
 | c :: m, t, hl, hp, p, hpn => by
  obtain ⟨h0, h1, h2⟩ := hp c (by simp);obtain ⟨a, ha⟩ : ∃ a : Nat, c.f0 = a := ⟨c.f0.toNat, by omega⟩;obtain ⟨b, hb⟩ : ∃ b : Nat, c.f1 = b := ⟨c.f1.toNat, by omega⟩;have ih := incL_mono n m ((t.set c.f0.toNat (rd t c.f0 + 1)).set c.f1.toNat (rd t c.f1 + 1)) (by simp [hl]) (fun d hd => hp d (by simp [hd])) p hpn;rw [incL];refine Int.le_trans ?_ ih;rw [ha, hb, Int.toNat_natCast, Int.toNat_natCast, rd_two t a b p _ _ (by omega) (by omega) (by omega)];split
  ·subst p; omega
  ·split
   ·subst p; omega
   ·omega
theorem cdPairing_last (t : List Int) (hl : t.length ≤ 1000000000) (d : Nat) : ∀ (k i : Nat), i + d = t.length → d < k → spec_cdPairing.l1 k t t.length i = some (allOne (t.drop i)) := by
 induction d with
 | zero =>
  intro k i hd hk;obtain ⟨k, rfl⟩ : ∃ m, k = m + 1 := ⟨k - 1, by omega⟩;simp only [spec_cdPairing.l1];rw [if_neg (by omega), List.drop_of_length_le (by omega)];rfl
 | succ d ih =>
  intro k i hd hk;obtain ⟨k, rfl⟩ : ∃ m, k = m + 1 := ⟨k - 1, by omega⟩;simp only [spec_cdPairing.l1];have hi : i < t.length := by omega
  rw [if_pos (by omega), if_pos (by omega), if_pos (by omega), List.drop_eq_getElem_cons hi, rdN t i hi];by_cases h : rd t i = 1
  ·rw [if_pos h, wrap_step (by omega) (by omega)];have := ih k (i + 1) (by omega) (by omega);rw [show ((i + 1 : Nat) : Int) = (i : Int) + 1 by omega] at this;rw [this];simp [allOne, h]
  ·rw [if_neg h];simp [allOne, h]
theorem rdC_mid (pre m : List S39) (c : S39) : rd_T39 (pre ++ c :: m) (pre.length : Int) = c := by
 unfold rd_T39; simp
theorem cdPairing_loop (n : Nat) (hn : n ≤ 100) (m : List S39) : ∀ (k : Nat) (pre : List S39) (t : List Int), t.length = n → (∀ c ∈ m, Proper n c) → (∀ p : Nat, p < n → 0 ≤ rd t p ∧ rd t p ≤ pre.length) → pre.length + m.length ≤ 1000 → m.length + n + 1 < k →
  spec_cdPairing.l0 k t (pre ++ m) ((pre ++ m).length : Int) pre.length = some (allOne (incL m t)) := by
 induction m with
 | nil =>
  intro k pre t ht _ _ hl hk;obtain ⟨k, rfl⟩ : ∃ q, k = q + 1 := ⟨k - 1, by omega⟩;simp only [spec_cdPairing.l0];rw [if_neg (by simp)];have := cdPairing_last t (by omega) t.length k 0 (by omega) (by simp at hk; omega);rw [List.drop_zero] at this;exact this
 | cons c m ih =>
  intro k pre t ht hp hb hl hk;obtain ⟨k, rfl⟩ : ∃ q, k = q + 1 := ⟨k - 1, by omega⟩;obtain ⟨h0, h1, h2⟩ := hp c (by simp);obtain ⟨a, ha⟩ : ∃ a : Nat, c.f0 = a := ⟨c.f0.toNat, by omega⟩;obtain ⟨b, hbb⟩ : ∃ b : Nat, c.f1 = b := ⟨c.f1.toNat, by omega⟩;rw [List.length_cons] at hl hk;have ba := hb a (by omega);have bb := hb b (by omega);have w1 : wrap64 (rd t a + 1) = rd t a + 1 := wrap_step ba.1 (by omega);have w2 : wrap64 (rd t b + 1) = rd t b + 1 := wrap_step bb.1 (by omega);have ws : wrap64 ((pre.length : Int) + 1) = ((pre ++ [c]).length : Int) := by rw [wrap_step (by omega) (by omega)]; simp
  have hne : a ≠ b := by omega
  simp only [spec_cdPairing.l0, rdC_mid];rw [if_pos (by simp; omega), if_pos (by omega), if_pos (by simp; omega), if_pos (by omega), if_pos (by omega)];simp only [Option.bind_some];rw [if_pos (by omega), if_pos (by omega), ha, hbb, Int.toNat_natCast, Int.toNat_natCast, w1, rd_set_other _ _ _ _ (Ne.symm hne), w2, ws]
  have := ih k (pre ++ [c]) ((t.set a (rd t a + 1)).set b (rd t b + 1)) (by simp [ht]) (fun d hd => hp d (by simp [hd])) (fun p hpn => by
   have := hb p hpn
   rw [rd_two t a b p _ _ (by omega) (by omega) hne]
   rw [List.length_append, List.length_singleton]
   split
   ·omega
   ·split <;> omega) (by simp; omega) (by omega)
  rw [List.append_assoc, List.singleton_append] at this;rw [this, incL, ha, hbb, Int.toNat_natCast, Int.toNat_natCast]
theorem rd_rep (n p : Nat) (x : Int) (hp : p < n) : rd (List.replicate n x) p = x := by
 unfold rd; simp [hp]
theorem cdPairing_eq (n : Nat) (hn : n ≤ 100) (l : List S39) (hp : ∀ c ∈ l, Proper n c) (hl : l.length ≤ 1000) (k : Nat) (hk : l.length + n + 1 < k) : spec_cdPairing.f k n l = some (allOne (incL l (List.replicate n 0))) := by
 unfold spec_cdPairing.f;rw [if_pos (by omega), if_pos (by omega), Int.toNat_natCast];have := cdPairing_loop n hn l k [] (List.replicate n 0) (by simp) hp (fun p hpn => by rw [rd_rep n p 0 hpn]; simp) (by simpa using hl) hk;simpa using this
theorem join_inc (n : Nat) : ∀ (m : List S39) (xs t : List Int), xs.length = n → t.length = n → (∀ p : Nat, p < n → (rd t p = 0 ∧ rd xs p = -1) ∨ (rd t p = 1 ∧ 0 ≤ rd xs p)) → (∀ c ∈ m, Proper n c) →
  (joinL m xs = some none ∧ allOne (incL m t) = false) ∨ ∃ ys, joinL m xs = some (some ys) ∧ ys.length = n ∧ (allOne (incL m t) = !decide ((-1 : Int) ∈ ys))
 | [], xs, t, hx, ht, hI, _ => by
  refine .inr ⟨xs, rfl, hx, ?_⟩;by_cases h : (-1 : Int) ∈ xs
  ·rw [decide_eq_true h];obtain ⟨i, hi, he⟩ := List.getElem_of_mem h;rw [rdN] at he;have := hI i (by omega)
   cases h2 : allOne (incL [] t) with
   | false => rfl
   | true =>
    have := (allOne_iff t).1 h2 i (by omega);omega
  ·rw [decide_eq_false h];refine (allOne_iff t).2 fun i hi => ?_
   rcases hI i (by omega) with h1 | h1
   ·refine absurd ?_ h;rw [← h1.2, ← rdN xs i (by omega)];exact List.getElem_mem _
   ·exact h1.1
 | c :: m, xs, t, hx, ht, hI, hp => by
  obtain ⟨h0, h1, h2⟩ := hp c (by simp);obtain ⟨a, ha⟩ : ∃ a : Nat, c.f0 = a := ⟨c.f0.toNat, by omega⟩;obtain ⟨b, hb⟩ : ∃ b : Nat, c.f1 = b := ⟨c.f1.toNat, by omega⟩;have hne : a ≠ b := by omega
  have hm : ∀ d ∈ m, Proper n d := fun d hd => hp d (by simp [hd])
  simp only [joinL, incL, ha, hb, Int.toNat_natCast];rw [if_pos (by omega)];have hset : ∀ p : Nat, rd ((t.set a (rd t a + 1)).set b (rd t b + 1)) p = if p = b then rd t b + 1 else if p = a then rd t a + 1 else rd t p := fun p => rd_two t a b p _ _ (by omega) (by omega) hne
  have hsx : ∀ p : Nat, rd ((xs.set a b).set b a) p = if p = b then (a : Int) else if p = a then (b : Int) else rd xs p := fun p => rd_two xs a b p _ _ (by omega) (by omega) hne
  have hl2 : ((t.set a (rd t a + 1)).set b (rd t b + 1)).length = n := by simp [ht]
  by_cases hv : rd xs a ≥ 0 ∨ rd xs b ≥ 0
  ·rw [if_pos hv];refine .inl ⟨rfl, ?_⟩
   cases h3 : allOne (incL m ((t.set a (rd t a + 1)).set b (rd t b + 1))) with
   | false => rfl
   | true =>
    have h4 := (allOne_iff _).1 h3;rw [incL_len, hl2] at h4;have m1 := incL_mono n m _ hl2 hm a (by omega);have m2 := incL_mono n m _ hl2 hm b (by omega);rw [h4 a (by omega), hset, if_neg hne, if_pos rfl] at m1;rw [h4 b (by omega), hset, if_pos rfl] at m2;have i1 := hI a (by omega);have i2 := hI b (by omega);omega
  ·rw [if_neg hv];refine join_inc n m _ _ (by simp [hx]) hl2 (fun p hpn => ?_) hm;rw [hset, hsx];have i1 := hI a (by omega);have i2 := hI b (by omega);have i3 := hI p hpn;by_cases q1 : p = b
   ·rw [if_pos q1, if_pos q1]; omega
   ·rw [if_neg q1, if_neg q1];by_cases q2 : p = a
    ·rw [if_pos q2, if_pos q2]; omega
    ·rw [if_neg q2, if_neg q2]; exact i3
theorem contains_loop (l : List Int) (x : Int) (hl : l.length ≤ 1000000000) (d : Nat) : ∀ (k i : Nat), i + d = l.length → d < k → ∃ r, slices_Index_int_int.l0 k l x l.length i = some r ∧ (decide (r ≥ 0) = decide (x ∈ l.drop i)) := by
 induction d with
 | zero =>
  intro k i hd hk;obtain ⟨k, rfl⟩ : ∃ m, k = m + 1 := ⟨k - 1, by omega⟩;simp only [slices_Index_int_int.l0];rw [if_neg (by omega), List.drop_of_length_le (by omega)];exact ⟨_, rfl, by simp⟩
 | succ d ih =>
  intro k i hd hk;obtain ⟨k, rfl⟩ : ∃ m, k = m + 1 := ⟨k - 1, by omega⟩;simp only [slices_Index_int_int.l0];have hi : i < l.length := by omega
  rw [if_pos (by omega), if_pos (by omega), if_pos (by omega), List.drop_eq_getElem_cons hi, rdN l i hi];by_cases h : x = rd l i
  ·rw [if_pos h];exact ⟨_, rfl, by simp [h]⟩
  ·rw [if_neg h, wrap_step (by omega) (by omega)];obtain ⟨r, h1, h2⟩ := ih k (i + 1) (by omega) (by omega);rw [show ((i + 1 : Nat) : Int) = (i : Int) + 1 by omega] at h1;exact ⟨r, h1, by rw [h2]; simp [h]⟩
theorem contains_eq (l : List Int) (x : Int) (hl : l.length ≤ 1000000000) (k : Nat) (hk : l.length < k) : slices_Contains_int_int.f k l x = some (decide (x ∈ l)) := by
 unfold slices_Contains_int_int.f slices_Index_int_int.f;obtain ⟨r, h1, h2⟩ := contains_loop l x hl l.length k 0 (by omega) hk;rw [List.drop_zero] at h2;simp only [Int.natCast_zero] at h1;rw [h1, Option.bind_some, h2]
theorem repeat_eq (n : Nat) (h : 1 ≤ n) (hn : n ≤ 100) : slices_Repeat_int_int.f [-1] n = some (List.replicate n (-1)) := by
 unfold slices_Repeat_int_int.f;simp only;rw [if_pos (by omega)];rfl
theorem partners_eq (n : Nat) (h1 : 1 ≤ n) (hn : n ≤ 100) (l : List S39) (hp : ∀ c ∈ l, Proper n c) (k : Nat) (hk : n < k) :
  (impl_partners.f k n l = some ([], false) ∧ allOne (incL l (List.replicate n 0)) = false) ∨ ∃ ys, joinL l (List.replicate n (-1)) = some (some ys) ∧ ys.length = n ∧ impl_partners.f k n l = some (ys, allOne (incL l (List.replicate n 0))) := by
 unfold impl_partners.f;rw [repeat_eq n h1 hn, Option.bind_some];rcases join_inc n l (List.replicate n (-1)) (List.replicate n 0) (by simp) (by simp) (fun p hpn => .inl ⟨rd_rep _ _ _ hpn, rd_rep _ _ _ hpn⟩) hp with ⟨e, h⟩ | ⟨ys, e, hy, h⟩
 ·rw [e]; exact .inl ⟨rfl, h⟩
 ·rw [e, Option.bind_some];refine .inr ⟨ys, rfl, hy, ?_⟩;simp only;rw [contains_eq ys (-1) (by omega) k (by omega), Option.bind_some, h]
theorem join_spec (n : Nat) : ∀ (m : List S39) (xs ys : List Int), xs.length = n → (∀ c ∈ m, Proper n c) → joinL m xs = some (some ys) →
  (∀ p : Nat, p < n → rd xs p ≥ 0 → rd ys p = rd xs p) ∧ (∀ c ∈ m, rd ys c.f0 = c.f1 ∧ rd ys c.f1 = c.f0) ∧ (∀ p : Nat, p < n → rd ys p = rd xs p ∨ ∃ c ∈ m, c.f0 = p ∨ c.f1 = p)
 | [], xs, ys, hx, _, h => by
  simp only [joinL, Option.some.injEq] at h;subst h;exact ⟨fun _ _ _ => rfl, by simp, fun _ _ => .inl rfl⟩
 | c :: m, xs, ys, hx, hp, h => by
  obtain ⟨h0, h1, h2⟩ := hp c (by simp);obtain ⟨a, ha⟩ : ∃ a : Nat, c.f0 = a := ⟨c.f0.toNat, by omega⟩;obtain ⟨b, hb⟩ : ∃ b : Nat, c.f1 = b := ⟨c.f1.toNat, by omega⟩;have hne : a ≠ b := by omega
  simp only [joinL] at h;rw [if_pos (by omega), ha, hb, Int.toNat_natCast, Int.toNat_natCast] at h;by_cases hv : rd xs a ≥ 0 ∨ rd xs b ≥ 0
  ·rw [if_pos hv] at h; simp at h
  ·rw [if_neg hv] at h;have hsx : ∀ p : Nat, rd ((xs.set a b).set b a) p = if p = b then (a : Int) else if p = a then (b : Int) else rd xs p := fun p => rd_two xs a b p _ _ (by omega) (by omega) hne
   obtain ⟨i1, i2, i3⟩ := join_spec n m _ ys (by simp [hx]) (fun d hd => hp d (by simp [hd])) h;have ya : rd ys a = b := by rw [i1 a (by omega) (by rw [hsx, if_neg hne, if_pos rfl]; omega), hsx, if_neg hne, if_pos rfl]
   have yb : rd ys b = a := by rw [i1 b (by omega) (by rw [hsx, if_pos rfl]; omega), hsx, if_pos rfl]
   refine ⟨fun p hp0 hp1 => ?_, fun d hd => ?_, fun p hp0 => ?_⟩
   ·have e1 : p ≠ a := fun e => by subst e; omega
    have e2 : p ≠ b := fun e => by subst e; omega
    have := i1 p hp0 (by rw [hsx, if_neg e2, if_neg e1]; exact hp1);rw [this, hsx, if_neg e2, if_neg e1]
   ·rcases List.mem_cons.1 hd with e | e
    ·subst e; rw [ha, hb]; exact ⟨ya, yb⟩
    ·exact i2 d e
   ·by_cases e1 : p = a
    ·exact .inr ⟨c, by simp, .inl (by omega)⟩
    ·by_cases e2 : p = b
     ·exact .inr ⟨c, by simp, .inr (by omega)⟩
     ·rcases i3 p hp0 with e | ⟨d, hd, e⟩
      ·rw [hsx, if_neg e2, if_neg e1] at e; exact .inl e
      ·exact .inr ⟨d, by simp [hd], e⟩
theorem pairs_none (n : Int) : ∀ (l : List S39), (∀ c ∈ l, Proper n c) → pairsX l = 0 → ∀ c ∈ l, ∀ d ∈ l, ¬ (c.f0 < d.f0 ∧ d.f0 < c.f1 ∧ c.f1 < d.f1)
 | [], _, _ => by simp
 | x :: l, hp, h => by
  simp only [pairsX] at h;have h1 : countX x l = 0 := by omega
  have ih := pairs_none n l (fun c hc => hp c (by simp [hc])) (by omega)
  have hx : ∀ d ∈ l, ¬ crossB x d = true := by
   unfold countX at h1;rw [List.countP_eq_zero] at h1;exact h1
  intro c hc d hd;rcases List.mem_cons.1 hc with e | e <;> rcases List.mem_cons.1 hd with e2 | e2
  ·subst e; subst e2; omega
  ·subst e;intro hh;exact hx d e2 ((crossB_iff n c d (hp c (by simp)) (hp d (by simp [e2]))).2 (.inl hh))
  ·subst e2;intro hh;exact hx c e ((crossB_iff n d c (hp d (by simp)) (hp c (by simp [e]))).2 (.inr hh))
  ·exact ih c e d e2
structure PlaneJ (n : Nat) (l : List S39) (J : List Int) : Prop where
 len : J.length = n
 inv : ∀ p : Nat, p < n → ∃ q : Nat, q < n ∧ rd J p = q ∧ rd J q = p ∧ q ≠ p
 mem : ∀ p q : Nat, p < q → q < n → (rd J p = q ↔ ∃ c ∈ l, c.f0 = p ∧ c.f1 = q)
 nc : ∀ p q r s : Nat, p < q → q < r → r < s → s < n → rd J p = r → rd J q = s → False
theorem planeJ_of (n : Nat) (l : List S39) (ys : List Int) (hp : ∀ c ∈ l, Proper n c) (hj : joinL l (List.replicate n (-1)) = some (some ys)) (hy : ys.length = n) (hm : ¬ (-1 : Int) ∈ ys) (hx : pairsX l = 0) : PlaneJ n l ys := by
 obtain ⟨i1, i2, i3⟩ := join_spec n l _ ys (by simp) hp hj
 have hc : ∀ p : Nat, p < n → ∃ c ∈ l, c.f0 = p ∨ c.f1 = p := by
  intro p hpn;rcases i3 p hpn with e | e
  ·rw [rd_rep n p (-1) hpn] at e;refine absurd ?_ hm;rw [← e, ← rdN ys p (by omega)];exact List.getElem_mem _
  ·exact e
 have mem : ∀ p q : Nat, p < q → q < n → (rd ys p = q ↔ ∃ c ∈ l, c.f0 = p ∧ c.f1 = q) := by
  intro p q hpq hq;constructor
  ·intro h;obtain ⟨c, hcl, e⟩ := hc p (by omega);obtain ⟨y1, y2⟩ := i2 c hcl;obtain ⟨h0, h1, h2⟩ := hp c hcl;rcases e with e | e
   ·rw [e, h] at y1; exact ⟨c, hcl, e, y1.symm⟩
   ·rw [e, h] at y2; omega
  ·rintro ⟨c, hcl, e1, e2⟩;have := (i2 c hcl).1;rw [e1, e2] at this;exact this
 refine ⟨hy, fun p hpn => ?_, mem, ?_⟩
 ·obtain ⟨c, hcl, e⟩ := hc p hpn;obtain ⟨y1, y2⟩ := i2 c hcl;obtain ⟨h0, h1, h2⟩ := hp c hcl;rcases e with e | e
  ·refine ⟨c.f1.toNat, by omega, ?_, ?_, by omega⟩
   ·rw [← e, y1]; omega
   ·rw [show ((c.f1.toNat : Nat) : Int) = c.f1 by omega, y2, e]
  ·refine ⟨c.f0.toNat, by omega, ?_, ?_, by omega⟩
   ·rw [← e, y2]; omega
   ·rw [show ((c.f0.toNat : Nat) : Int) = c.f0 by omega, y1, e]
 ·intro p q r s h1 h2 h3 h4 e1 e2;obtain ⟨c, hcl, c1, c2⟩ := (mem p r (by omega) (by omega)).1 e1;obtain ⟨d, hdl, d1, d2⟩ := (mem q s (by omega) (by omega)).1 e2;exact pairs_none n l hp hx c hcl d hdl (by omega)
theorem rankLoop (J : List Int) (f e h i g : Nat) (hn : e ≤ 30) (he : e = f + 2 * h) (hh : h = i + g + 1) (r1 r2 : Int) (hr1 : 0 ≤ r1 ∧ r1 < cat i) (hr2 : 0 ≤ r2 ∧ r2 < cat g) (B : Nat) (hB : 20 ≤ B)
  (H1 : ∀ k, B ≤ k → impl_rankOfPlane.f k J ((f + 1 : Nat) : Int) ((f + 1 + 2 * i : Nat) : Int) = some r1) (H2 : ∀ k, B ≤ k → impl_rankOfPlane.f k J ((f + 2 + 2 * i : Nat) : Int) (e : Int) = some r2) :
  ∀ (d j k : Nat), j + d = i → B + d < k → impl_rankOfPlane.l0 k J f e ((2 * i : Nat) : Int) ((2 * g : Nat) : Int) (prt h j) ((2 * j : Nat) : Int) = some (prt h i + r1 * cat g + r2)
 | 0, j, k, hj, hk => by
  obtain ⟨k, rfl⟩ : ∃ q, k = q + 1 := ⟨k - 1, by omega⟩;obtain rfl : j = i := by omega
  have hp := prt_le h j (by omega) (by omega)
  have hm : r1 * cat g + cat g ≤ cat j * cat g := by
   have hg := cat_pos g (by omega);have := Int.mul_le_mul_of_nonneg_right (show r1 + 1 ≤ cat j by omega) (show 0 ≤ cat g by omega);rwa [Int.add_mul, Int.one_mul] at this
  have hm0 : 0 ≤ r1 * cat g := Int.mul_nonneg hr1.1 (by have := cat_pos g (by omega); omega);have hc := cat_pos h (by omega);have hs : prt h (j + 1) = prt h j + cat j * cat g := by rw [prt, show h - 1 - j = g by omega]
  have w1 := mk_ (show wrap64 ((f : Int) + 1) = ((f + 1 : Nat) : Int) from by rw [wrap64_id (by omega) (by omega)]; omega);have w2 := mk_ (show wrap64 (((f + 1 : Nat) : Int) + ((2 * j : Nat) : Int)) = ((f + 1 + 2 * j : Nat) : Int) from by rw [wrap64_id (by omega) (by omega)]; omega);have w3 := mk_ (show wrap64 ((f : Int) + 2) = ((f + 2 : Nat) : Int) from by rw [wrap64_id (by omega) (by omega)]; omega);have w4 := mk_ (show wrap64 (((f + 2 : Nat) : Int) + ((2 * j : Nat) : Int)) = ((f + 2 + 2 * j : Nat) : Int) from by rw [wrap64_id (by omega) (by omega)]; omega);have w5 := mk_ (show ((2 * g : Nat) : Int) = 2 * (g : Int) from by omega);have w6 := mk_ (show wrap64 (r1 * cat g) = r1 * cat g from wrap64_id (by omega) (by omega));have w7 := mk_ (show wrap64 (prt h j + r1 * cat g) = prt h j + r1 * cat g from wrap64_id (by omega) (by omega));have w8 := mk_ (show wrap64 (prt h j + r1 * cat g + r2) = prt h j + r1 * cat g + r2 from wrap64_id (by omega) (by omega));simp only [impl_rankOfPlane.l0];rw [if_neg (by omega), w1.out, w2.out, w3.out, w4.out, H1 k (by omega), H2 k (by omega), w5.out, countPlane_eq g (by omega) k (by omega)];simp only [Option.bind_some];rw [w6.out, w7.out, w8.out]
 | d + 1, j, k, hj, hk => by
  obtain ⟨k, rfl⟩ : ∃ q, k = q + 1 := ⟨k - 1, by omega⟩;have hp := prt_le h j (by omega) (by omega);have hc := cat_pos h (by omega);have hmul := cat_mul j (h - 1 - j) (by omega) (by omega);have hs : prt h (j + 1) = prt h j + cat j * cat (h - 1 - j) := rfl;have w1 := mk_ (show wrap64 ((e : Int) - f) = ((2 * h : Nat) : Int) from by rw [wrap64_id (by omega) (by omega)]; omega);have w2 := mk_ (show wrap64 (((2 * h : Nat) : Int) - 2) = ((2 * h - 2 : Nat) : Int) from by rw [wrap64_id (by omega) (by omega)]; omega);have w3 := mk_ (show wrap64 (((2 * h - 2 : Nat) : Int) - ((2 * j : Nat) : Int)) = 2 * ((h - 1 - j : Nat) : Int) from by rw [wrap64_id (by omega) (by omega)]; omega);have w4 := mk_ (show wrap64 (((2 * j : Nat) : Int) + 2) = ((2 * (j + 1) : Nat) : Int) from by rw [wrap64_id (by omega) (by omega)]; omega);have w5 := mk_ (show ((2 * j : Nat) : Int) = 2 * (j : Int) from by omega);have w6 := mk_ (show wrap64 (cat j * cat (h - 1 - j)) = cat j * cat (h - 1 - j) from wrap64_id (by omega) (by omega));have w7 := mk_ (show wrap64 (prt h j + cat j * cat (h - 1 - j)) = prt h (j + 1) from by rw [hs]; exact wrap64_id (by omega) (by omega));simp only [impl_rankOfPlane.l0];rw [if_pos (by omega), w1.out, w2.out, w3.out, w4.out, w5.out, countPlane_eq j (by omega) k (by omega), countPlane_eq (h - 1 - j) (by omega) k (by omega)];simp only [Option.bind_some];rw [w6.out, w7.out];exact rankLoop J f e h i g hn he hh r1 r2 hr1 hr2 B hB H1 H2 d (j + 1) k (by omega) (by omega)
theorem rank_hit (l : List S39) (f q : Nat) (pts : Int) (ways : List Int) (rank kk behind : Int) (hq : wrap64 ((f : Int) + kk) = q) (R : Int) (B : Nat)
  (H : ∀ k, B ≤ k → ((spec_cdRank.f k l (wrap64 ((f : Int) + 1)) (wrap64 (kk - 1)) ways).bind fun t => ((spec_cdRank.f k l (wrap64 ((q : Int) + 1)) (wrap64 ((wrap64 (pts - 1)) - kk)) ways).bind fun u => (some (wrap64 ((wrap64 (rank + (wrap64 (t * behind)))) + u))))) = some R) :
  ∀ (m pre : List S39) (k : Nat), l = pre ++ m → l.length ≤ 1000 → (∃ c ∈ m, c.f0 = f ∧ c.f1 = q) → B + 2 * m.length ≤ k → spec_cdRank.l1 k l f pts ways rank kk behind l l.length pre.length = some R
 | [], pre, k, _, _, hc, _ => by simp at hc
 | c :: m, pre, k, hl, hs, hc, hk => by
  rw [List.length_cons] at hk;obtain ⟨k, rfl⟩ : ∃ t, k = t + 2 := ⟨k - 2, by omega⟩;have hL : l.length = pre.length + (m.length + 1) := by rw [hl]; simp
  have hrd : rd_T39 l (pre.length : Int) = c := by rw [hl]; exact rdC_mid pre m c
  simp only [spec_cdRank.l1, hrd];rw [if_pos (by omega), if_pos (by omega), if_pos (by omega)];by_cases h1 : c.f0 = f
  ·rw [if_pos h1];simp only [spec_cdRank.j2, hq];by_cases h2 : c.f1 = q
   ·rw [if_pos (by simp [h2])];exact H k (by omega)
   ·rw [if_neg (by simp [h2]), wrap_step (by omega) (by omega)]
    have := rank_hit l f q pts ways rank kk behind hq R B H m (pre ++ [c]) k (by simp [hl]) hs (by
     obtain ⟨d, hd, e1, e2⟩ := hc
     rcases List.mem_cons.1 hd with e | e
     ·subst e; exact absurd e2 h2
     ·exact ⟨d, e, e1, e2⟩) (by omega)
    simpa using this
  ·rw [if_neg h1];simp only [spec_cdRank.j2];rw [if_neg (by simp), wrap_step (by omega) (by omega)]
   have := rank_hit l f q pts ways rank kk behind hq R B H m (pre ++ [c]) k (by simp [hl]) hs (by
    obtain ⟨d, hd, e1, e2⟩ := hc
    rcases List.mem_cons.1 hd with e | e
    ·subst e; exact absurd e1 h1
    ·exact ⟨d, e, e1, e2⟩) (by omega)
   simpa using this
theorem rank_miss (l : List S39) (f q : Nat) (pts : Int) (ways : List Int) (rank kk behind : Int) (hq : wrap64 ((f : Int) + kk) = q) (R : Int) (B : Nat)
  (H : ∀ k, B ≤ k → (if 0 ≤ (wrap64 (kk - 1)) then (if (wrap64 (kk - 1)) < (ways.length : Int) then (spec_cdRank.l0 k l f pts ways (wrap64 (rank + (wrap64 ((rd ways (wrap64 (kk - 1))) * behind)))) (wrap64 (kk + 2))) else (none)) else (none)) = some R) :
  ∀ (m pre : List S39) (k : Nat), l = pre ++ m → l.length ≤ 1000 → (∀ c ∈ m, ¬ (c.f0 = f ∧ c.f1 = q)) → B + 2 * m.length < k → spec_cdRank.l1 k l f pts ways rank kk behind l l.length pre.length = some R
 | [], pre, k, hl, hs, _, hk => by
  obtain ⟨k, rfl⟩ : ∃ t, k = t + 1 := ⟨k - 1, by omega⟩;have hL : l.length = pre.length := by rw [hl]; simp
  simp only [spec_cdRank.l1];rw [if_neg (by omega)];exact H k (by simp at hk; omega)
 | c :: m, pre, k, hl, hs, hc, hk => by
  rw [List.length_cons] at hk;obtain ⟨k, rfl⟩ : ∃ t, k = t + 2 := ⟨k - 2, by omega⟩;have hL : l.length = pre.length + (m.length + 1) := by rw [hl]; simp
  have hrd : rd_T39 l (pre.length : Int) = c := by rw [hl]; exact rdC_mid pre m c
  have ih := rank_miss l f q pts ways rank kk behind hq R B H m (pre ++ [c]) k (by simp [hl]) hs (fun d hd => hc d (by simp [hd])) (by omega);have ih2 : spec_cdRank.l1 k l f pts ways rank kk behind l l.length ((pre.length : Int) + 1) = some R := by simpa using ih
  simp only [spec_cdRank.l1, hrd];rw [if_pos (by omega), if_pos (by omega), if_pos (by omega)];by_cases h1 : c.f0 = f
  ·rw [if_pos h1];simp only [spec_cdRank.j2, hq];have h2 : ¬ c.f1 = q := fun e => hc c (by simp) ⟨h1, e⟩
   rw [if_neg (by simp [h2]), wrap_step (by omega) (by omega)];exact ih2
  ·rw [if_neg h1];simp only [spec_cdRank.j2];rw [if_neg (by simp), wrap_step (by omega) (by omega)];exact ih2
theorem cdRankLoop (n : Nat) (hn : n ≤ 30) (l : List S39) (hl : l.length ≤ 40) (f h i g : Nat) (he : f + 2 * h ≤ n) (hh : h = i + g + 1) (r1 r2 : Int) (hr1 : 0 ≤ r1 ∧ r1 < cat i) (hr2 : 0 ≤ r2 ∧ r2 < cat g)
  (hit : ∃ c ∈ l, c.f0 = (f : Int) ∧ c.f1 = ((f + 2 * i + 1 : Nat) : Int)) (miss : ∀ j : Nat, j < i → ∀ c ∈ l, ¬ (c.f0 = (f : Int) ∧ c.f1 = ((f + 2 * j + 1 : Nat) : Int))) (B : Nat)
  (H1 : ∀ k, B ≤ k → spec_cdRank.f k l ((f + 1 : Nat) : Int) ((2 * i : Nat) : Int) (waysL n) = some r1) (H2 : ∀ k, B ≤ k → spec_cdRank.f k l ((f + 2 * i + 2 : Nat) : Int) ((2 * g : Nat) : Int) (waysL n) = some r2) :
  ∀ (d j k : Nat), j + d = i → B + 100 * (d + 1) ≤ k → spec_cdRank.l0 k l f ((2 * h : Nat) : Int) (waysL n) (prt h j) ((2 * j + 1 : Nat) : Int) = some (prt h i + r1 * cat g + r2)
 | 0, j, k, hj, hk => by
  obtain ⟨k, rfl⟩ : ∃ q, k = q + 1 := ⟨k - 1, by omega⟩;obtain rfl : j = i := by omega
  have hp := prt_le h j (by omega) (by omega)
  have hm : r1 * cat g + cat g ≤ cat j * cat g := by
   have hg := cat_pos g (by omega);have := Int.mul_le_mul_of_nonneg_right (show r1 + 1 ≤ cat j by omega) (show 0 ≤ cat g by omega);rwa [Int.add_mul, Int.one_mul] at this
  have hm0 : 0 ≤ r1 * cat g := Int.mul_nonneg hr1.1 (by have := cat_pos g (by omega); omega);have hc := cat_pos h (by omega);have hs : prt h (j + 1) = prt h j + cat j * cat g := by rw [prt, show h - 1 - j = g by omega]
  have w0 := mk_ (show wrap64 (((2 * h : Nat) : Int) - 1) = ((2 * h - 1 : Nat) : Int) from by rw [wrap64_id (by omega) (by omega)]; omega);have w1 := mk_ (show wrap64 (((2 * h - 1 : Nat) : Int) - ((2 * j + 1 : Nat) : Int)) = 2 * (g : Int) from by rw [wrap64_id (by omega) (by omega)]; omega);have w2 := mk_ (show wrap64 ((f : Int) + 1) = ((f + 1 : Nat) : Int) from by rw [wrap64_id (by omega) (by omega)]; omega);have w3 := mk_ (show wrap64 ((f : Int) + ((2 * j + 1 : Nat) : Int)) = ((f + 2 * j + 1 : Nat) : Int) from by rw [wrap64_id (by omega) (by omega)]; omega);have w4 := mk_ (show wrap64 (((f + 2 * j + 1 : Nat) : Int) + 1) = ((f + 2 * j + 2 : Nat) : Int) from by rw [wrap64_id (by omega) (by omega)]; omega);have w5 := mk_ (show wrap64 (((2 * j + 1 : Nat) : Int) - 1) = ((2 * j : Nat) : Int) from by rw [wrap64_id (by omega) (by omega)]; omega);have w6 := mk_ (show wrap64 (r1 * cat g) = r1 * cat g from wrap64_id (by omega) (by omega));have w7 := mk_ (show wrap64 (prt h j + r1 * cat g) = prt h j + r1 * cat g from wrap64_id (by omega) (by omega));have w8 := mk_ (show wrap64 (prt h j + r1 * cat g + r2) = prt h j + r1 * cat g + r2 from wrap64_id (by omega) (by omega));have w9 := mk_ (show ((2 * g : Nat) : Int) = 2 * (g : Int) from by omega);have hwl := waysL_len n;simp only [spec_cdRank.l0];rw [if_pos (by omega), w0.out, w1.out, if_pos (by omega), if_pos (by omega), waysL_rd n g (by omega)]
  have := rank_hit l f (f + 2 * j + 1) ((2 * h : Nat) : Int) (waysL n) (prt h j) ((2 * j + 1 : Nat) : Int) (cat g) w3.out (prt h j + r1 * cat g + r2) B (fun k hk => by
   rw [w2.out, w5.out, w4.out, w0.out, w1.out, H1 k hk, ← w9.out, H2 k hk]
   simp only [Option.bind_some]
   rw [w6.out, w7.out, w8.out]) l [] k rfl (by omega) hit (by omega)
  simpa using this
 | d + 1, j, k, hj, hk => by
  obtain ⟨k, rfl⟩ : ∃ q, k = q + 1 := ⟨k - 1, by omega⟩;have hp := prt_le h j (by omega) (by omega);have hc := cat_pos h (by omega);have hmul := cat_mul j (h - 1 - j) (by omega) (by omega);have hs : prt h (j + 1) = prt h j + cat j * cat (h - 1 - j) := rfl;have w0 := mk_ (show wrap64 (((2 * h : Nat) : Int) - 1) = ((2 * h - 1 : Nat) : Int) from by rw [wrap64_id (by omega) (by omega)]; omega);have w1 := mk_ (show wrap64 (((2 * h - 1 : Nat) : Int) - ((2 * j + 1 : Nat) : Int)) = 2 * ((h - 1 - j : Nat) : Int) from by rw [wrap64_id (by omega) (by omega)]; omega);have w3 := mk_ (show wrap64 ((f : Int) + ((2 * j + 1 : Nat) : Int)) = ((f + 2 * j + 1 : Nat) : Int) from by rw [wrap64_id (by omega) (by omega)]; omega);have w5 := mk_ (show wrap64 (((2 * j + 1 : Nat) : Int) - 1) = 2 * (j : Int) from by rw [wrap64_id (by omega) (by omega)]; omega);have w6 := mk_ (show wrap64 (cat j * cat (h - 1 - j)) = cat j * cat (h - 1 - j) from wrap64_id (by omega) (by omega));have w7 := mk_ (show wrap64 (prt h j + cat j * cat (h - 1 - j)) = prt h (j + 1) from by rw [hs]; exact wrap64_id (by omega) (by omega));have w8 := mk_ (show wrap64 (((2 * j + 1 : Nat) : Int) + 2) = ((2 * (j + 1) + 1 : Nat) : Int) from by rw [wrap64_id (by omega) (by omega)]; omega);have hwl := waysL_len n;simp only [spec_cdRank.l0];rw [if_pos (by omega), w0.out, w1.out, if_pos (by omega), if_pos (by omega), waysL_rd n (h - 1 - j) (by omega)]
  have := rank_miss l f (f + 2 * j + 1) ((2 * h : Nat) : Int) (waysL n) (prt h j) ((2 * j + 1 : Nat) : Int) (cat (h - 1 - j)) w3.out (prt h i + r1 * cat g + r2) (B + 100 * (d + 1)) (fun k hk => by
   rw [w5.out, if_pos (by omega), if_pos (by omega), waysL_rd n j (by omega), w6.out, w7.out, w8.out]
   exact cdRankLoop n hn l hl f h i g he hh r1 r2 hr1 hr2 hit miss B H1 H2 d (j + 1) k (by omega) hk) l [] k rfl (by omega) (miss j (by omega)) (by omega)
  simpa using this
theorem rank_main (n : Nat) (hn : n ≤ 30) (l : List S39) (hl : l.length ≤ 40) (hpr : ∀ c ∈ l, Proper n c) (J : List Int) (P : PlaneJ n l J) : ∀ (d f e : Nat), e - f ≤ d → f ≤ e → e ≤ n → (∀ p : Nat, f ≤ p → p < e → (f : Int) ≤ rd J p ∧ rd J p < e) →
  ∃ (h : Nat) (r : Int), e = f + 2 * h ∧ 0 ≤ r ∧ r < cat h ∧ (∀ D, h ≤ D → ∀ c, c ∈ plF D h f r ↔ c ∈ l ∧ (f : Int) ≤ c.f0 ∧ c.f0 < e) ∧ (∀ k, 40 * (h + 1) ≤ k → impl_rankOfPlane.f k J f e = some r) ∧ (∀ k, 2000 * (h + 1) ≤ k → spec_cdRank.f k l f ((2 * h : Nat) : Int) (waysL n) = some r) := by
 intro d
 induction d with
 | zero =>
  intro f e hd hfe hen _;obtain rfl : e = f := by omega
  refine ⟨0, 0, rfl, Int.le_refl _, by decide, fun D _ c => ?_, fun k hk => ?_, fun k hk => ?_⟩
  ·rw [plF_zero];simp only [List.not_mem_nil, false_iff];omega
  ·obtain ⟨k, rfl⟩ : ∃ q, k = q + 1 := ⟨k - 1, by omega⟩;simp only [impl_rankOfPlane.f];rw [if_pos trivial]
  ·obtain ⟨k, rfl⟩ : ∃ q, k = q + 1 := ⟨k - 1, by omega⟩;simp only [spec_cdRank.f];rw [if_pos (by omega)]
 | succ d ih =>
  intro f e hd hfe hen hcl;by_cases hfe2 : e = f
  ·exact ih f e (by omega) hfe hen hcl
  ·obtain ⟨q, hq, jf, jq, hne⟩ := P.inv f (by omega);have hq2 := hcl f (Nat.le_refl _) (by omega);rw [jf] at hq2
   have hin : ∀ p : Nat, f + 1 ≤ p → p < q → ((f + 1 : Nat) : Int) ≤ rd J p ∧ rd J p < q := by
    intro p h1 h2;obtain ⟨s, hs, jp, js, hsp⟩ := P.inv p (by omega);have hb := hcl p (by omega) (by omega);rw [jp] at hb ⊢;have e1 : s ≠ f := fun e => by subst e; rw [jf] at js; omega
    have e2 : s ≠ q := fun e => by subst e; rw [jq] at js; omega
    have e3 : ¬ q < s := fun h => P.nc f p q s (by omega) h2 h (by omega) jf jp
    omega
   have hout : ∀ p : Nat, q + 1 ≤ p → p < e → ((q + 1 : Nat) : Int) ≤ rd J p ∧ rd J p < e := by
    intro p h1 h2;obtain ⟨s, hs, jp, js, hsp⟩ := P.inv p (by omega);have hb := hcl p (by omega) (by omega);rw [jp] at hb ⊢;have e1 : s ≠ f := fun e => by subst e; rw [jf] at js; omega
    have e2 : s ≠ q := fun e => by subst e; rw [jq] at js; omega
    have e3 : ¬ s < q := fun h => by have := hin s (by omega) h; rw [js] at this; omega
    omega
   obtain ⟨i, r1, he1, hr1, hr1', M1, I1, S1⟩ := ih (f + 1) q (by omega) (by omega) (by omega) hin;obtain ⟨g, r2, he2, hr2, hr2', M2, I2, S2⟩ := ih (q + 1) e (by omega) (by omega) hen hout;obtain ⟨h, hh⟩ : ∃ h, h = i + g + 1 := ⟨_, rfl⟩;have hp := prt_le h i (by omega) (by omega)
   have hm : r1 * cat g + cat g ≤ cat i * cat g := by
    have hg := cat_pos g (by omega);have := Int.mul_le_mul_of_nonneg_right (show r1 + 1 ≤ cat i by omega) (show 0 ≤ cat g by omega);rwa [Int.add_mul, Int.one_mul] at this
   have hm0 : 0 ≤ r1 * cat g := Int.mul_nonneg hr1 (by have := cat_pos g (by omega); omega);have hs : prt h (i + 1) = prt h i + cat i * cat g := by rw [prt, show h - 1 - i = g by omega]
   refine ⟨h, prt h i + r1 * cat g + r2, by omega, by omega, by omega, fun D hD c => ?_, fun k hk => ?_, fun k hk => ?_⟩
   ·obtain ⟨D, rfl⟩ : ∃ t, D = t + 1 := ⟨D - 1, by omega⟩;have m1 := M1 D (by omega) c;have m2 := M2 D (by omega) c;rw [show ((f + 1 : Nat) : Int) = (f : Int) + 1 by omega] at m1;rw [show ((q + 1 : Nat) : Int) = (f : Int) + (2 * (i : Int) + 2) by omega] at m2;rw [plF_at D h i g f r1 r2 hh (by omega) ⟨hr1, hr1'⟩ ⟨hr2, hr2'⟩, List.mem_cons, List.mem_append, m1, m2];obtain ⟨d, hdl, hd0, hd1⟩ := (P.mem f q (by omega) (by omega)).1 jf
    have hx : (⟨(f : Int), (f : Int) + (2 * (i : Int) + 1)⟩ : S39) = d := by
     cases d;simp only at hd0 hd1;rw [hd0, hd1, show (f : Int) + (2 * (i : Int) + 1) = (q : Int) by omega]
    rw [hx];constructor
    ·rintro (e | ⟨hc, h1, h2⟩ | ⟨hc, h1, h2⟩)
     ·subst e; exact ⟨hdl, by omega, by omega⟩
     ·exact ⟨hc, by omega, by omega⟩
     ·exact ⟨hc, by omega, by omega⟩
    ·rintro ⟨hc, h1, h2⟩;have hp := hpr c hc;unfold Proper at hp;have hj := (P.mem c.f0.toNat c.f1.toNat (by omega) (by omega)).2 ⟨c, hc, by omega, by omega⟩;by_cases e0 : c.f0 = f
     ·rw [show c.f0.toNat = f by omega, jf] at hj;refine .inl ?_;rw [← hx];cases c;simp only at e0 hj hp ⊢;rw [e0, show (f : Int) + (2 * (i : Int) + 1) = (q : Int) by omega, hj, Int.toNat_of_nonneg (by omega)]
     ·by_cases e1 : c.f0 = q
      ·rw [show c.f0.toNat = q by omega, jq] at hj;omega
      ·by_cases e2 : c.f0 < q
       ·exact .inr (.inl ⟨hc, by omega, by omega⟩)
       ·exact .inr (.inr ⟨hc, by omega, by omega⟩)
   ·obtain ⟨k, rfl⟩ : ∃ q, k = q + 1 := ⟨k - 1, by omega⟩;have hJl := P.len;have w1 := mk_ (show wrap64 ((q : Int) - f) = ((2 * i + 1 : Nat) : Int) from by rw [wrap64_id (by omega) (by omega)]; omega);have w2 := mk_ (show wrap64 (((2 * i + 1 : Nat) : Int) - 1) = ((2 * i : Nat) : Int) from by rw [wrap64_id (by omega) (by omega)]; omega);have w3 := mk_ (show wrap64 ((e : Int) - f) = ((2 * h : Nat) : Int) from by rw [wrap64_id (by omega) (by omega)]; omega);have w4 := mk_ (show wrap64 (((2 * h : Nat) : Int) - 2) = ((2 * h - 2 : Nat) : Int) from by rw [wrap64_id (by omega) (by omega)]; omega);have w5 := mk_ (show wrap64 (((2 * h - 2 : Nat) : Int) - ((2 * i : Nat) : Int)) = ((2 * g : Nat) : Int) from by rw [wrap64_id (by omega) (by omega)]; omega);simp only [impl_rankOfPlane.f];rw [if_neg (by omega), if_pos (by omega), if_pos (by omega), jf, w1.out, w2.out, w3.out, w4.out, w5.out]
    have := rankLoop J f e h i g (by omega) (by omega) hh r1 r2 ⟨hr1, hr1'⟩ ⟨hr2, hr2'⟩ (40 * h) (by omega) (fun k hk => by
     have := I1 k (by omega)
     rwa [he1] at this) (fun k hk => by
     have := I2 k (by omega)
     rwa [show q + 1 = f + 2 + 2 * i by omega] at this) i 0 k (by omega) (by omega)
    exact this
   ·obtain ⟨k, rfl⟩ : ∃ q, k = q + 1 := ⟨k - 1, by omega⟩;simp only [spec_cdRank.f];rw [if_neg (by omega)]
    have := cdRankLoop n hn l hl f h i g (by omega) hh r1 r2 ⟨hr1, hr1'⟩ ⟨hr2, hr2'⟩ (by
     have := (P.mem f q (by omega) (by omega)).1 jf
     rwa [show q = f + 2 * i + 1 by omega] at this) (by
     intro j hj c hc hcc
     have := (P.mem f (f + 2 * j + 1) (by omega) (by omega)).2 ⟨c, hc, hcc⟩
     rw [jf] at this
     omega) (2000 * h) (fun k hk => S1 k (by omega)) (fun k hk => by
     have := S2 k (by omega)
     rwa [show q + 1 = f + 2 * i + 2 by omega] at this) i 0 k (by omega) (by omega)
    exact this
def dd (n : Nat) : List UInt8 := if n < 10 then [UInt8.ofNat (48 + n)] else [UInt8.ofNat (48 + n / 10), UInt8.ofNat (48 + n % 10)]
theorem dd_eq (n : Nat) (h : n < 100) : Lib.decDigits n = dd n := by
 unfold dd;rw [Lib.decDigits];by_cases h1 : n < 10
 ·rw [dif_pos h1, if_pos h1]
 ·rw [dif_neg h1, if_neg h1, Lib.decDigits, dif_pos (by omega)];rfl
theorem num_dd : ∀ n : Nat, n < 100 → spec_l1Num.f 10 (n : Int) = some ⟨(dd n).toArray⟩ := by decide +kernel
theorem num_up (n : Int) (r : ByteArray) : ∀ j, spec_l1Num.f 10 n = some r → spec_l1Num.f (10 + j) n = some r
 | 0, h => h
 | j + 1, h => spec_l1Num.mono n (10 + j) r (num_up n r j h)
theorem dd_len (n : Nat) : (dd n).length ≤ 2 := by unfold dd; split <;> simp
def nt (n : Int) : ByteArray := ⟨(dd n.toNat).toArray⟩
theorem nt_size (n : Int) : (nt n).size ≤ 2 := by
 show (dd n.toNat).toArray.size ≤ 2;rw [List.size_toArray];exact dd_len _
theorem num_eq (n : Int) (h : 0 ≤ n ∧ n < 100) (k : Nat) (hk : 10 ≤ k) : spec_l1Num.f k n = some (nt n) := by
 obtain ⟨j, rfl⟩ : ∃ j, k = 10 + j := ⟨k - 10, by omega⟩;refine num_up n _ j ?_;have h1 := num_dd n.toNat (by omega);rw [Int.toNat_of_nonneg h.1] at h1;exact h1
theorem itoa_eq (n : Int) (h : 0 ≤ n ∧ n < 100) : strconv_Itoa.f n = some (nt n) := by
 unfold strconv_Itoa.f nt;rw [if_pos h, dd_eq n.toNat (by omega)]
def ct (c : S39) : ByteArray := (nt c.f0 ++ (⟨#[45]⟩ : ByteArray)) ++ nt c.f1
theorem lit1 (b : UInt8) : (⟨#[b]⟩ : ByteArray).size = 1 := rfl
theorem ct_size (c : S39) : (ct c).size ≤ 5 := by
 unfold ct;have h1 := nt_size c.f0;have h2 := nt_size c.f1;rw [ByteArray.size_append, ByteArray.size_append, lit1];omega
def joinB (l : List S39) : List UInt8 := Lib.join ((l.map ct).map (·.data.toList)) [44]
theorem joinB_snoc (l : List S39) (x : S39) : joinB (l ++ [x]) = joinB l ++ (if l = [] then [] else [44]) ++ (ct x).data.toList := by
 unfold joinB
 cases l with
 | nil => simp [Lib.join_nil, Lib.join_one]
 | cons y l =>
  rw [if_neg (by simp)];simp only [List.cons_append, List.map_cons, List.map_append, List.map_nil, Lib.join_cons, Lib.joinTail, List.flatten_append, List.flatten_cons, List.flatten_nil, List.append_nil, List.append_assoc]
theorem tail_len : ∀ l : List S39, (Lib.joinTail [44] ((l.map ct).map (·.data.toList))).length ≤ 6 * l.length
 | [] => by simp [Lib.joinTail]
 | x :: l => by
  have ih := tail_len l;have h := ct_size x;have h2 : (ct x).data.toList.length = (ct x).size := by simp
  have e : Lib.joinTail [44] (((x :: l).map ct).map (·.data.toList)) = ([44] ++ (ct x).data.toList) ++ Lib.joinTail [44] ((l.map ct).map (·.data.toList)) := by simp [Lib.joinTail]
  rw [e, List.length_append, List.length_append, h2];simp only [List.length_cons, List.length_nil];omega
theorem joinB_len : ∀ (l : List S39) , (joinB l).length ≤ 6 * l.length
 | [] => by simp [joinB, Lib.join_nil]
 | x :: l => by
  have ih := tail_len l;have h := ct_size x;have h2 : (ct x).data.toList.length = (ct x).size := by simp
  unfold joinB;rw [List.map_cons, List.map_cons, Lib.join_cons, List.length_append, h2, List.length_cons];omega
def jb (l : List S39) : ByteArray := ⟨(joinB l).toArray⟩
theorem jb_size (l : List S39) : (jb l).size ≤ 6 * l.length := by
 show (joinB l).toArray.size ≤ _;rw [List.size_toArray];exact joinB_len l
theorem jb_first (x : S39) : jb [x] = jb [] ++ ct x := by
 apply ByteArray.ext;apply Array.toList_inj.1;rw [ByteArray.data_append, Array.toList_append];have := joinB_snoc [] x;simp only [List.nil_append, if_true] at this;show joinB [x] = (joinB []) ++ _;rw [this];simp
theorem jb_next (l : List S39) (x : S39) (h : l ≠ []) : jb (l ++ [x]) = (jb l ++ (⟨#[44]⟩ : ByteArray)) ++ ct x := by
 apply ByteArray.ext;apply Array.toList_inj.1;rw [ByteArray.data_append, ByteArray.data_append, Array.toList_append, Array.toList_append];show joinB (l ++ [x]) = (joinB l ++ [44]) ++ _;rw [joinB_snoc, if_neg h]
theorem cdText_loop (l : List S39) (hl : l.length ≤ 1000) (hP : ∀ x ∈ l, Proper 60 x) (m : List S39) : ∀ (k : Nat) (pre : List S39), pre ++ m = l → m.length + 20 < k →
  spec_cdText.l0 k (jb pre) l (l.length : Int) (pre.length : Int) = some (jb l) := by
 induction m with
 | nil =>
  intro k pre e hk;obtain ⟨k, rfl⟩ : ∃ t, k = t + 1 := ⟨k - 1, by omega⟩;rw [List.append_nil] at e;subst e;simp only [spec_cdText.l0];rw [if_neg (by omega)]
 | cons x m ih =>
  intro k pre e hk;obtain ⟨k, rfl⟩ : ∃ t, k = t + 1 := ⟨k - 1, by omega⟩;simp only [List.length_cons] at hk;have hlen : (l.length : Int) = pre.length + m.length + 1 := by rw [← e]; simp; omega
  have hx : rd_T39 l (pre.length : Int) = x := by rw [← e]; exact rdC_append pre m x
  have hp := hP x (by rw [← e]; simp);unfold Proper at hp;have n1 := num_eq x.f0 (by omega) k (by omega);have n2 := num_eq x.f1 (by omega) k (by omega);have s1 := nt_size x.f0;have s2 := nt_size x.f1;have sj := jb_size pre;have IH := ih k (pre ++ [x]) (by simpa using e) (by omega);rw [show (((pre ++ [x]).length : Nat) : Int) = (pre.length : Int) + 1 by simp] at IH;have g1 : (pre.length : Int) < (l.length : Int) := by omega
  have g2 : (0 : Int) ≤ (pre.length : Int) := by omega
  have g3 : (nt x.f0).size + 1 ≤ 9223372036854775807 := by omega
  have g4 : (nt x.f0 ++ (⟨#[45]⟩ : ByteArray)).size + (nt x.f1).size ≤ 9223372036854775807 := by rw [ByteArray.size_append, lit1]; omega
  have hw := mk_ (show wrap64 ((pre.length : Int) + 1) = (pre.length : Int) + 1 from wrap64_id (by omega) (by omega));have hcs := ct_size x;have hct : (nt x.f0 ++ (⟨#[45]⟩ : ByteArray)) ++ nt x.f1 = ct x := rfl;simp only [spec_cdText.l0];rw [if_pos g1, if_pos g2, if_pos g1, hx];by_cases hpre : pre = []
  ·subst hpre;rw [if_neg (by simp), n1];simp only [Option.bind_some];rw [if_pos g3, n2];simp only [Option.bind_some];have g6 : (jb []).size + (ct x).size ≤ 9223372036854775807 := by omega
   rw [if_pos g4, hct, if_pos g6, hw.out, ← jb_first];exact IH
  ·have g0 : (pre.length : Int) > 0 := by
    have : 0 < pre.length := List.length_pos_iff.2 hpre;omega
   have g5 : (jb pre).size + 1 ≤ 9223372036854775807 := by omega
   have g6 : (jb pre ++ (⟨#[44]⟩ : ByteArray)).size + (ct x).size ≤ 9223372036854775807 := by rw [ByteArray.size_append, lit1]; omega
   rw [if_pos g0, if_pos g5, n1];simp only [Option.bind_some];rw [if_pos g3, n2];simp only [Option.bind_some];rw [if_pos g4, hct, if_pos g6, hw.out, ← jb_next pre x hpre];exact IH
theorem len_data (w : ByteArray) : w.data.toList.length = w.size := by simp
theorem bt_get (w : ByteArray) (i : Nat) (h : i < w.size) : bt w (i : Int) = ((w.data.toList[i]'(by rw [len_data]; exact h)).toNat : Int) := by
 unfold bt;rw [dif_pos (by simpa using h)];rfl
theorem u8_eq (b : UInt8) (n : Nat) (hn : n < 256) : ((b.toNat : Int) = (n : Int)) ↔ b = UInt8.ofNat n := by
 constructor
 ·intro h;apply UInt8.toNat_inj.1;rw [UInt8.toNat_ofNat'];omega
 ·intro h;rw [h, UInt8.toNat_ofNat'];omega
def digB (b : UInt8) : Bool := decide (48 ≤ b.toNat) && decide (b.toNat ≤ 57)
def valD : Int → List UInt8 → Int
 | acc, [] => acc
 | acc, b :: l => valD (10 * acc + ((b.toNat : Int) - 48)) l
theorem valD_ge : ∀ (l : List UInt8) (acc : Int), 0 ≤ acc → l.all digB = true → acc ≤ valD acc l
 | [], acc, _, _ => Int.le_refl _
 | b :: l, acc, h, hd => by
  simp only [List.all_cons, Bool.and_eq_true] at hd;have hb := hd.1;unfold digB at hb;simp only [Bool.and_eq_true, decide_eq_true_eq] at hb;have := valD_ge l (10 * acc + ((b.toNat : Int) - 48)) (by omega) hd.2;simp only [valD];omega
def readV (l : List UInt8) : Int := if (1 ≤ l.length ∧ l.length ≤ 6) ∧ ¬ (l.head? = some 48 ∧ 1 < l.length) ∧ l.all digB = true then valD 0 l else -1
theorem read_loop (s : ByteArray) (hs : s.size ≤ 6) (d : Nat) : ∀ (k i : Nat) (acc B : Int), i + d = s.size → d < k → 0 ≤ acc → acc < B → B * 10 ^ d ≤ 100000000 → 1 ≤ B →
  spec_l1Read.l0 k s acc (i : Int) = some (if (s.data.toList.drop i).all digB = true then valD acc (s.data.toList.drop i) else -1) := by
 induction d with
 | zero =>
  intro k i acc B hi hk h0 hB hb h1;obtain ⟨k, rfl⟩ : ∃ t, k = t + 1 := ⟨k - 1, by omega⟩;simp only [spec_l1Read.l0];rw [if_neg (by omega), List.drop_eq_nil_of_le (by rw [len_data]; omega)];rfl
 | succ d ih =>
  intro k i acc B hi hk h0 hB hb h1;obtain ⟨k, rfl⟩ : ∃ t, k = t + 1 := ⟨k - 1, by omega⟩;have hlt : i < s.data.toList.length := by rw [len_data]; omega
  have hpow : B * 10 * 10 ^ d ≤ 100000000 := by
   have e : B * 10 ^ (d + 1) = B * 10 * 10 ^ d := by rw [Int.pow_succ, Int.mul_assoc, Int.mul_comm (10 ^ d) 10]
   omega
  have hB1 : B * 10 ≤ 100000000 := by
   have h10 : (1 : Int) ≤ 10 ^ d := by
    have : (0 : Int) < 10 ^ d := Int.pow_pos (by decide);omega
   have := Int.mul_le_mul_of_nonneg_left h10 (show (0 : Int) ≤ B * 10 by omega);omega
  clear hb;have hbt := bt_get s i (by omega);simp only [spec_l1Read.l0];rw [if_pos (by omega), if_pos (by omega), List.drop_eq_getElem_cons hlt, hbt];generalize s.data.toList[i] = b at hbt ⊢;have hbl : (b.toNat : Int) < 256 := by have := UInt8.toNat_lt b; omega
  by_cases c1 : (b.toNat : Int) < 48
  ·have hd : digB b = false := by unfold digB; rw [decide_eq_false (by omega), Bool.false_and]
   rw [if_pos c1];simp [hd]
  ·rw [if_neg c1];by_cases c2 : (b.toNat : Int) > 57
   ·have hd : digB b = false := by unfold digB; rw [decide_eq_false (p := b.toNat ≤ 57) (by omega), Bool.and_false]
    rw [if_pos c2];simp [hd]
   ·have hd : digB b = true := by unfold digB; rw [decide_eq_true (by omega), decide_eq_true (by omega)]; rfl
    have em : ((b.toNat : Int) - 48) % 256 = (b.toNat : Int) - 48 := Int.emod_eq_of_lt (by omega) (by omega);rw [if_neg c2, em, wrap64_id (x := 10 * acc) (by omega) (by omega), wrap64_id (x := 10 * acc + ((b.toNat : Int) - 48)) (by omega) (by omega), wrap64_id (x := (i : Int) + 1) (by omega) (by omega)];have := ih k (i + 1) (10 * acc + ((b.toNat : Int) - 48)) (B * 10) (by omega) (by omega) (by omega) (by omega) hpow (by omega);rw [show ((i : Int) + 1) = ((i + 1 : Nat) : Int) by omega, this];simp [hd, valD]
theorem l1Read_eq (s : ByteArray) (hs : s.size ≤ 1000000) (k : Nat) (hk : 20 ≤ k) : spec_l1Read.f k s = some (readV s.data.toList) := by
 obtain ⟨k, rfl⟩ : ∃ t, k = t + 1 := ⟨k - 1, by omega⟩;unfold spec_l1Read.f readV;rw [l1In_eq, len_data];simp only [Option.bind_some];by_cases h : 1 ≤ s.size ∧ s.size ≤ 6
 ·have hlt : 0 < s.data.toList.length := by rw [len_data]; omega
  have hbt := bt_get s 0 (by omega)
  have hL := read_loop s h.2 s.size k 0 0 1 (by omega) (by omega) (by omega) (by omega) (by
   rcases (show s.size = 1 ∨ s.size = 2 ∨ s.size = 3 ∨ s.size = 4 ∨ s.size = 5 ∨ s.size = 6 by omega) with e | e | e | e | e | e <;> rw [e] <;> decide) (by omega)
  rw [List.drop_zero] at hL
  have hh : s.data.toList.head? = some s.data.toList[0] := by
   rw [List.head?_eq_getElem?, List.getElem?_eq_getElem hlt]
  rw [if_pos (decide_eq_true (by omega)), if_pos (by omega), show (0 : Int) = ((0 : Nat) : Int) from rfl, hbt, hh];generalize s.data.toList[0] = b at hbt ⊢;by_cases hb : (b.toNat : Int) = 48
  ·have hb2 : b = 48 := (u8_eq b 48 (by omega)).1 hb;rw [if_pos hb];simp only [spec_l1Read.j0];by_cases h1 : 1 < s.size
   ·rw [if_pos (decide_eq_true (by omega)), if_neg (fun q => q.2.1 ⟨by rw [hb2], h1⟩)]
   ·rw [if_neg (by simp; omega), show spec_l1Read.l0 k s 0 0 = _ from hL];by_cases ha : s.data.toList.all digB = true
    ·rw [if_pos ha, if_pos ⟨h, fun q => h1 q.2, ha⟩];rfl
    ·rw [if_neg ha, if_neg (fun q => ha q.2.2)]
  ·have hb2 : ¬ b = 48 := fun e => hb ((u8_eq b 48 (by omega)).2 e)
   rw [if_neg hb];simp only [spec_l1Read.j0];rw [if_neg (by simp), show spec_l1Read.l0 k s 0 0 = _ from hL];by_cases ha : s.data.toList.all digB = true
   ·rw [if_pos ha, if_pos ⟨h, fun q => hb2 (Option.some.inj q.1), ha⟩];rfl
   ·rw [if_neg ha, if_neg (fun q => ha q.2.2)]
 ·rw [if_neg (by simp; omega), if_neg (fun q => h q.1)];simp only [spec_l1Read.j0];rfl
theorem u8_of (b : UInt8) (h : 48 ≤ b.toNat) : b = UInt8.ofNat (48 + (b.toNat - 48)) := by
 rw [show 48 + (b.toNat - 48) = b.toNat by omega];exact (UInt8.ofNat_toNat).symm
theorem readV_dd (l : List UInt8) (v : Int) (hv : 0 ≤ v ∧ v < 100) (h : readV l = v) : l = dd v.toNat := by
 unfold readV at h;split at h
 ·rename_i hc;obtain ⟨⟨c1, c2⟩, c3, c4⟩ := hc
  match l, c1, c3, c4, h with
  | [a], _, _, c4, h =>
   simp only [List.all_cons, List.all_nil, Bool.and_true] at c4;unfold digB at c4;simp only [Bool.and_eq_true, decide_eq_true_eq] at c4;simp only [valD] at h;unfold dd;have e : v.toNat = a.toNat - 48 := by omega
   rw [e, if_pos (by omega), ← u8_of a (by omega)]
  | [a, b], _, c3, c4, h =>
   simp only [List.all_cons, List.all_nil, Bool.and_true, Bool.and_eq_true] at c4;unfold digB at c4;simp only [Bool.and_eq_true, decide_eq_true_eq] at c4;simp only [valD] at h
   have ha : ¬ a.toNat = 48 := by
    intro e;refine c3 ⟨?_, by simp⟩;have : a = 48 := UInt8.toNat_inj.1 e;rw [this]; rfl
   unfold dd;have e1 : v.toNat / 10 = a.toNat - 48 := by omega
   have e2 : v.toNat % 10 = b.toNat - 48 := by omega
   rw [if_neg (by omega), e1, e2, ← u8_of a (by omega), ← u8_of b (by omega)]
  | a :: b :: c :: r, _, c3, c4, h =>
   exfalso;simp only [List.all_cons, Bool.and_eq_true] at c4;obtain ⟨d1, d2, d3, d4⟩ := c4;unfold digB at d1 d2 d3;simp only [Bool.and_eq_true, decide_eq_true_eq] at d1 d2 d3
   have ha : ¬ a.toNat = 48 := by
    intro e;refine c3 ⟨?_, by simp⟩;have : a = 48 := UInt8.toNat_inj.1 e;rw [this]; rfl
   simp only [valD] at h;have := valD_ge r _ (show 0 ≤ 10 * (10 * (10 * 0 + ((a.toNat : Int) - 48)) + ((b.toNat : Int) - 48)) + ((c.toNat : Int) - 48) by omega) d4;omega
 ·omega
theorem dd_readV : ∀ n : Nat, n < 100 → readV (dd n) = (n : Int) := by decide +kernel
theorem numV_dd (l : List UInt8) (v : Int) (hv : 0 ≤ v ∧ v < 100) (h : numV l = v) : l = dd v.toNat := by
 unfold numV at h;split at h
 ·split at h
  ·rename_i hc;obtain ⟨c1, c2⟩ := hc;subst h;rw [← c2];unfold Lib.itoa;rw [if_neg (by omega), dd_eq _ (by omega)]
  ·omega
 ·omega
theorem dd_numV : ∀ n : Nat, n < 100 → numV (dd n) = (n : Int) := by
 intro n hn;have h1 : ∀ n : Nat, n < 100 → Lib.atoiAll (dd n) = .ok (n : Int) := by decide +kernel
 unfold numV;rw [h1 n hn];simp only
 have e : Lib.itoa (n : Int) = dd n := by
  unfold Lib.itoa;rw [if_neg (by omega), Int.toNat_natCast, dd_eq n hn]
 rw [if_pos ⟨by omega, e⟩]
theorem read_num (l : List UInt8) (v : Int) (hv : 0 ≤ v ∧ v < 100) : readV l = v ↔ numV l = v := by
 constructor
 ·intro h;rw [readV_dd l v hv h, dd_numV _ (by omega)];omega
 ·intro h;rw [numV_dd l v hv h, dd_readV _ (by omega)];omega
theorem wrapS (n : Nat) (h : n ≤ 4000000000) : wrap64 ((n : Int) + 1) = ((n + 1 : Nat) : Int) := by
 rw [wrap64_id (by omega) (by omega)];omega
def mkB (l : List UInt8) : ByteArray := ⟨l.toArray⟩
theorem mkB_data (l : List UInt8) : (mkB l).data.toList = l := by simp [mkB]
theorem mkB_size (l : List UInt8) : (mkB l).size = l.length := by
 show l.toArray.size = _;simp
theorem mkB_of (s : ByteArray) : mkB s.data.toList = s := by simp [mkB]
theorem mkB_extract (s : ByteArray) (i j : Nat) (h : j ≤ s.size) : s.extract i j = mkB ((s.data.toList.drop i).take (j - i)) := by
 refine ByteArray.ext ?_;apply Array.toList_inj.1;simp [mkB, ByteArray.data_extract, List.take_drop]
def splitL (c : UInt8) : List UInt8 → List (List UInt8)
 | [] => [[]]
 | b :: l => if b = c then [] :: splitL c l else match splitL c l with
  | [] => [[b]]
  | p :: ps => (b :: p) :: ps
theorem splitL_ne (c : UInt8) : ∀ l, splitL c l ≠ []
 | [] => by simp [splitL]
 | b :: l => by
  unfold splitL;split
  ·simp
  ·split <;> simp
theorem splitL_len (c : UInt8) : ∀ l, (splitL c l).length = l.count c + 1
 | [] => rfl
 | b :: l => by
  have ih := splitL_len c l;unfold splitL;by_cases h : b = c
  ·rw [if_pos h, List.length_cons, ih, h, List.count_cons_self]
  ·rw [if_neg h]
   cases hs : splitL c l with
   | nil => exact absurd hs (splitL_ne c l)
   | cons p ps =>
    rw [hs] at ih;rw [List.count_cons_of_ne h];simpa using ih
theorem splitL_none (c : UInt8) : ∀ l, l.count c = 0 → splitL c l = [l]
 | [], _ => rfl
 | b :: l, h => by
  have hb : ¬ b = c := fun e => by subst e; simp at h
  rw [List.count_cons_of_ne hb] at h;unfold splitL;rw [if_neg hb, splitL_none c l h]
theorem splitL_at (c : UInt8) : ∀ (a b : List UInt8), a.count c = 0 → splitL c (a ++ c :: b) = a :: splitL c b
 | [], b, _ => by simp [splitL]
 | x :: a, b, h => by
  have hx : ¬ x = c := fun e => by subst e; simp at h
  rw [List.count_cons_of_ne hx] at h;rw [List.cons_append, splitL, if_neg hx, splitL_at c a b h]
theorem indexByte_cases (c : UInt8) : ∀ l : List UInt8, (l.count c = 0 ∧ Lib.indexByte l c = -1) ∨ ∃ a b, l = a ++ c :: b ∧ a.count c = 0 ∧ Lib.indexByte l c = a.length
 | [] => .inl ⟨rfl, rfl⟩
 | x :: l => by
  by_cases hx : x = c
  ·subst hx;refine .inr ⟨[], l, rfl, rfl, ?_⟩;simp [Lib.indexByte]
  ·have hb : (x == c) = false := by simpa using hx
   rcases indexByte_cases c l with ⟨h1, h2⟩ | ⟨a, b, rfl, h2, h3⟩
   ·refine .inl ⟨by rw [List.count_cons_of_ne hx]; exact h1, ?_⟩;simp [Lib.indexByte, hb, h2]
   ·refine .inr ⟨x :: a, b, rfl, by rw [List.count_cons_of_ne hx]; exact h2, ?_⟩;unfold Lib.indexByte;rw [hb, h3];have : ((a.length : Int) == -1) = false := by first | (simp; done) | (simp; omega)
    simp [this]
theorem index_eq (s : ByteArray) (c : UInt8) : strings_Index.f s ⟨#[c]⟩ = some (Lib.indexByte s.data.toList c) := by
 unfold strings_Index.f stringslite_Index.f;rfl
theorem genSplit_loop (c : UInt8) (d : Nat) : ∀ (k : Nat) (s : ByteArray) (done : List ByteArray), s.data.toList.count c = d → s.size ≤ 1000000000 → done.length + d ≤ 1000000000 → d < k →
  strings_genSplit.l0 k s ⟨#[c]⟩ 0 ((done.length + d : Nat) : Int) (done ++ List.replicate (d + 1) ⟨#[]⟩) (done.length : Int) = some (done ++ (splitL c s.data.toList).map mkB) := by
 induction d with
 | zero =>
  intro k s done hc hs hd hk;obtain ⟨k, rfl⟩ : ∃ t, k = t + 1 := ⟨k - 1, by omega⟩;have hl : ((done ++ List.replicate (0 + 1) (⟨#[]⟩ : ByteArray)).length : Int) = ((done.length + 1 : Nat) : Int) := by simp
  simp only [strings_genSplit.l0];rw [if_neg (by omega), if_pos (by omega), if_pos (by rw [hl]; omega), wrapS _ (by omega), if_pos (by omega), if_pos (by rw [hl]; omega), splitL_none c _ hc];simp [mkB_of];exact List.take_of_length_le (by simp)
 | succ d ih =>
  intro k s done hc hs hd hk;obtain ⟨k, rfl⟩ : ∃ t, k = t + 1 := ⟨k - 1, by omega⟩;rcases indexByte_cases c s.data.toList with ⟨h1, h2⟩ | ⟨a, b, hab, h2, h3⟩
  ·omega
  ·have hsz : s.size = a.length + (b.length + 1) := by
    have := congrArg List.length hab;simpa using this
   have hl : ((done ++ List.replicate (d + 1 + 1) (⟨#[]⟩ : ByteArray)).length : Int) = ((done.length + (d + 2) : Nat) : Int) := by simp; omega
   have hcb : b.count c = d := by
    rw [hab, List.count_append, List.count_cons_self] at hc;omega
   simp only [strings_genSplit.l0];rewrite [if_pos (by omega), index_eq, h3, Option.bind_some];have e0 : (((⟨#[c]⟩ : ByteArray).size : Nat) : Int) = 1 := rfl;rewrite [if_neg (by omega), e0, wrapS a.length (by omega), Int.add_zero, wrap64_id (x := (a.length : Int)) (by omega) (by omega), if_pos (by omega), if_pos (by omega), if_pos (by omega), if_pos (by rw [hl]; omega), if_pos (by omega), if_pos (by omega), wrapS done.length (by omega)];simp only [Int.toNat_natCast]
   have ex1 : s.extract 0 a.length = mkB a := by
    rw [mkB_extract s 0 a.length (by omega), hab];simp
   have ex2 : s.extract (a.length + 1) s.size = mkB b := by
    rw [mkB_extract s (a.length + 1) s.size (Nat.le_refl _), hab];congr 1;rw [show a.length + 1 = (a ++ [c]).length by simp, show a ++ c :: b = (a ++ [c]) ++ b by simp, List.drop_left];exact List.take_of_length_le (by simp; omega)
   have est : (done ++ List.replicate (d + 1 + 1) (⟨#[]⟩ : ByteArray)).set done.length (mkB a) = (done ++ [mkB a]) ++ List.replicate (d + 1) ⟨#[]⟩ := by
    rw [List.set_append_right _ _ (Nat.le_refl _), Nat.sub_self, List.replicate_succ];simp
   rewrite [ex1, ex2, est];have IH := ih k (mkB b) (done ++ [mkB a]) (by rw [mkB_data]; exact hcb) (by rw [mkB_size]; omega) (by simp; omega) (by omega);rw [mkB_data, List.length_append, List.length_singleton] at IH;rw [show done.length + 1 + d = done.length + (d + 1) by omega] at IH;rewrite [IH, hab, splitL_at c a b h2, List.map_cons, List.append_assoc];rfl
theorem split_eq (s : ByteArray) (c : UInt8) (hs : s.size ≤ 2000000) (k : Nat) (hk : s.size + 10 < k) : strings_Split.f k s ⟨#[c]⟩ = some ((splitL c s.data.toList).map mkB) := by
 have hcl : s.data.toList.count c ≤ s.size := by
  have := List.count_le_length (a := c) (l := s.data.toList);simpa using this
 obtain ⟨n, hn⟩ : ∃ n, n = s.data.toList.count c := ⟨_, rfl⟩;rw [← hn] at hcl
 have hcnt : strings_Count.f s ⟨#[c]⟩ = some ((n : Nat) : Int) := by
  unfold strings_Count.f Lib.countByte;rw [hn]
 have hne : ¬ (⟨#[c]⟩ : ByteArray).toList = [] := by
  rw [Lib.toList_data];simp
 obtain ⟨k, rfl⟩ : ∃ t, k = t + 1 := ⟨k - 1, by omega⟩;unfold strings_Split.f strings_genSplit.f;rewrite [if_neg (by omega), if_neg hne, if_pos (by omega), hcnt, Option.bind_some];simp only [strings_genSplit.j0];have e3 : mn ((n + 1 : Nat) : Int) ((s.size + 1 : Nat) : Int) = ((n + 1 : Nat) : Int) := by unfold mn; split <;> omega
 have e5 : ((n + 1 : Nat) : Int) - 1 = (n : Int) := by omega
 rewrite [wrapS n (by omega), wrapS s.size (by omega), e3, e5, wrap64_id (x := (n : Int)) (by omega) (by omega), if_pos (by omega), if_pos (by rw [Int.toNat_natCast]; omega), Int.toNat_natCast];have := genSplit_loop c n k s [] hn.symm (by omega) (by simp; omega) (by omega);simp only [List.length_nil, Nat.zero_add, List.nil_append] at this;rewrite [show strings_genSplit.l0 k s ⟨#[c]⟩ 0 (n : Int) (List.replicate (n + 1) ⟨#[]⟩) 0 = _ from this];rfl
theorem cut_yes (s : ByteArray) (c : UInt8) (a b : List UInt8) (h : s.data.toList = a ++ c :: b) (ha : a.count c = 0) (hs : s.size ≤ 1000000000) : strings_Cut.f s ⟨#[c]⟩ = some (mkB a, mkB b, true) := by
 have hl : s.size = a.length + (b.length + 1) := by rw [← len_data, h]; simp
 have e1 : (((⟨#[c]⟩ : ByteArray).size : Nat) : Int) = 1 := rfl
 have hi : stringslite_Index.f s ⟨#[c]⟩ = some (a.length : Int) := by
  have h0 := index_eq s c;unfold strings_Index.f at h0;rcases indexByte_cases c s.data.toList with ⟨h1, h2⟩ | ⟨a', b', h1, h2, h3⟩
  ·rw [h, List.count_append, List.count_cons_self] at h1; omega
  ·have e : a' = a := by
    rw [h] at h1;have h4 := splitL_at c a b ha;rw [h1, splitL_at c a' b' h2] at h4;injection h4
   subst e;unfold stringslite_Index.f;simp only [h3]
 unfold strings_Cut.f stringslite_Cut.f;rw [hi, e1];simp only [Option.bind_some];rw [if_pos (by omega), if_pos (by omega), if_pos (by omega), wrapS a.length (by omega), if_pos (by omega), if_pos (by omega), Int.toNat_natCast, Int.toNat_natCast, mkB_extract s 0 a.length (by omega), mkB_extract s (a.length + 1) s.size (Nat.le_refl _), h]
 have e2 : (a ++ c :: b).drop (a.length + 1) = b := by
  rw [show a.length + 1 = (a ++ [c]).length by simp, show a ++ c :: b = (a ++ [c]) ++ b by simp, List.drop_left]
 rw [e2, List.take_of_length_le (l := b) (by omega)];simp
theorem cut_no (s : ByteArray) (c : UInt8) (h : s.data.toList.count c = 0) : strings_Cut.f s ⟨#[c]⟩ = some (s, ⟨#[]⟩, false) := by
 unfold strings_Cut.f stringslite_Cut.f stringslite_Index.f;rcases indexByte_cases c s.data.toList with ⟨h1, h2⟩ | ⟨a', b', h1, h2, h3⟩
 ·simp only [h2, Option.bind_some];rw [if_neg (by omega)];rfl
 ·rw [h1, List.count_append, List.count_cons_self] at h; omega
def splitA (c : UInt8) : List UInt8 → List UInt8 → List (List UInt8)
 | p, [] => [p]
 | p, b :: r => if b = c then p :: splitA c [] r else splitA c (p ++ [b]) r
theorem splitA_eq (c : UInt8) : ∀ (r p : List UInt8), ∃ q qs, splitL c r = q :: qs ∧ splitA c p r = (p ++ q) :: qs
 | [], p => ⟨[], [], rfl, by simp [splitA]⟩
 | b :: r, p => by
  by_cases h : b = c
  ·obtain ⟨q, qs, e1, e2⟩ := splitA_eq c r [];refine ⟨[], splitL c r, by simp [splitL, h], ?_⟩;simp only [splitA];rw [if_pos h, e2, e1];simp
  ·obtain ⟨q, qs, e1, e2⟩ := splitA_eq c r (p ++ [b]);refine ⟨b :: q, qs, ?_, ?_⟩
   ·simp only [splitL];rw [if_neg h, e1]
   ·simp only [splitA];rw [if_neg h, e2];simp
theorem splitA_nil (c : UInt8) (l : List UInt8) : splitA c [] l = splitL c l := by
 obtain ⟨q, qs, e1, e2⟩ := splitA_eq c l [];rw [e1, e2, List.nil_append]
theorem l1Split_loop (s : ByteArray) (c : UInt8) (hs : s.size ≤ 1000000) (d : Nat) : ∀ (k i from_ : Nat) (done : List ByteArray), i + d = s.size → from_ ≤ i → done.length ≤ i → d < k →
  spec_l1Split.l0 k s (c.toNat : Int) done (from_ : Int) (i : Int) = some (done ++ (splitA c ((s.data.toList.drop from_).take (i - from_)) (s.data.toList.drop i)).map mkB) := by
 induction d with
 | zero =>
  intro k i f done hi hf hd hk;obtain ⟨k, rfl⟩ : ∃ t, k = t + 1 := ⟨k - 1, by omega⟩;simp only [spec_l1Split.l0];rewrite [if_neg (by omega), if_pos (by omega), if_pos (by omega), if_pos (by omega), Int.toNat_natCast, mkB_extract s f s.size (Nat.le_refl _), List.drop_eq_nil_of_le (i := i) (by rw [len_data]; omega)];rw [show i = s.size by omega];rfl
 | succ d ih =>
  intro k i f done hi hf hd hk;obtain ⟨k, rfl⟩ : ∃ t, k = t + 1 := ⟨k - 1, by omega⟩;have hlt : i < s.data.toList.length := by rw [len_data]; omega
  have hbt := bt_get s i (by omega)
  have hpre : (s.data.toList.drop f).take (i + 1 - f) = (s.data.toList.drop f).take (i - f) ++ [s.data.toList[i]] := by
   rw [show i + 1 - f = (i - f) + 1 by omega, List.take_succ_eq_append_getElem (by simp; omega)];simp [show f + (i - f) = i by omega]
  simp only [spec_l1Split.l0];rewrite [if_pos (by omega), if_pos (by omega), hbt, List.drop_eq_getElem_cons hlt];generalize s.data.toList[i] = b at hpre ⊢;by_cases hb : b = c
  ·subst hb;rewrite [if_pos rfl, if_pos (by omega), if_pos (by omega), if_pos (by omega), if_pos (by omega), wrapS i (by omega), Int.toNat_natCast, Int.toNat_natCast, mkB_extract s f i (by omega), ih k (i + 1) (i + 1) _ (by omega) (Nat.le_refl _) (by simp; omega) (by omega)];simp only [splitA, if_true, Nat.sub_self, List.take_zero, List.map_cons, List.append_assoc, List.cons_append, List.nil_append]
  ·have hne : ¬ (b.toNat : Int) = (c.toNat : Int) := fun e => hb (UInt8.toNat_inj.1 (by omega))
   rewrite [if_neg hne, wrapS i (by omega), ih k (i + 1) f done (by omega) (by omega) (by omega) (by omega), hpre];simp only [splitA, if_neg hb]
theorem l1Split_eq (s : ByteArray) (c : UInt8) (hs : s.size ≤ 1000000) (k : Nat) (hk : s.size < k) : spec_l1Split.f k s (c.toNat : Int) = some ((splitL c s.data.toList).map mkB) := by
 unfold spec_l1Split.f;have := l1Split_loop s c hs s.size k 0 0 [] (by omega) (Nat.le_refl _) (Nat.le_refl _) hk;simp only [Nat.sub_self, List.take_zero, List.drop_zero, List.nil_append, splitA_nil] at this;exact this
def sumS (f : List Int → Int → Int) : List Int → List Int → Int
 | _, [] => 0
 | pre, x :: post => f (pre ++ post) x + sumS f (pre ++ [x]) post
def ways (crs : Int) : Nat → List Int → List S39 → Int
 | 0, _, _ => 0
 | _ + 1, [], list => if (pairsX list : Int) = crs then 1 else 0
 | d + 1, a :: rest, list => sumS (fun lf x => ways crs d lf (list ++ [⟨a, x⟩])) [] rest
theorem sumS_bound (f : List Int → Int → Int) (b : Int) : ∀ (post pre : List Int), (∀ (A B : List Int) (x : Int), post = A ++ x :: B → 0 ≤ f (pre ++ A ++ B) x ∧ f (pre ++ A ++ B) x ≤ b) → 0 ≤ sumS f pre post ∧ sumS f pre post ≤ post.length * b
 | [], _, _ => by simp [sumS]
 | x :: post, pre, h => by
  have h1 := h [] post x rfl;rw [List.append_nil] at h1
  have h2 := sumS_bound f b post (pre ++ [x]) (fun A B y e => by
   have := h (x :: A) B y (by rw [e]; rfl)
   rwa [show pre ++ (x :: A) ++ B = pre ++ [x] ++ A ++ B by simp] at this)
  have e : ((x :: post).length : Int) * b = post.length * b + b := by
   rw [List.length_cons, Int.natCast_add, Int.add_mul]; simp
  rw [e];simp only [sumS];omega
theorem sumS_zero (f : List Int → Int → Int) : ∀ (post pre : List Int), (∀ (A B : List Int) (x : Int), post = A ++ x :: B → f (pre ++ A ++ B) x = 0) → sumS f pre post = 0
 | [], _, _ => rfl
 | x :: post, pre, h => by
  simp only [sumS];have h1 := h [] post x rfl;rw [List.append_nil] at h1
  have h2 := sumS_zero f post (pre ++ [x]) (fun A B y e => by
   have := h (x :: A) B y (by rw [e]; rfl)
   rwa [show pre ++ (x :: A) ++ B = pre ++ [x] ++ A ++ B by simp] at this)
  omega
theorem pow12_all : ∀ d : Nat, d < 14 → (12 : Int) ^ d ≤ 106993205379072 ∧ 0 < (12 : Int) ^ d := by decide
theorem pow12 (d : Nat) (hd : d ≤ 13) : (12 : Int) ^ d ≤ 106993205379072 ∧ 0 < (12 : Int) ^ d := pow12_all d (by omega)
theorem ways_bound (crs : Int) : ∀ (d : Nat) (left : List Int) (list : List S39), left.length ≤ 12 → 0 ≤ ways crs d left list ∧ ways crs d left list ≤ (12 : Int) ^ d
 | 0, left, list, _ => by simp [ways]
 | d + 1, [], list, _ => by
  have : (0 : Int) < 12 ^ (d + 1) := Int.pow_pos (by omega);simp only [ways];split <;> omega
 | d + 1, a :: rest, list, h => by
  simp only [List.length_cons] at h;have hp : (0 : Int) < 12 ^ d := Int.pow_pos (by omega)
  obtain ⟨h1, h2⟩ := sumS_bound (fun lf x => ways crs d lf (list ++ [⟨a, x⟩])) (12 ^ d) rest [] (fun A B x e => ways_bound crs d _ _ (by
   have := congrArg List.length e
   simp at this ⊢
   omega))
  simp only [ways];refine ⟨h1, Int.le_trans h2 ?_⟩;rw [Int.pow_succ, Int.mul_comm];exact Int.mul_le_mul_of_nonneg_left (by omega) (by omega)
def Pts (n : Int) (l : List Int) : Prop := l.Pairwise (· < ·) ∧ ∀ x ∈ l, 0 ≤ x ∧ x < n
theorem pts_split {n a : Int} {A B : List Int} {x : Int} (h : Pts n (a :: (A ++ x :: B))) : Pts n (A ++ B) ∧ Proper n (⟨a, x⟩ : S39) := by
 obtain ⟨h1, h2⟩ := h;rw [List.pairwise_cons] at h1;have hx := h1.1 x (by simp)
 refine ⟨⟨?_, fun y hy => h2 y (by
  rcases List.mem_append.1 hy with h | h <;> simp [h])⟩, (h2 a (by simp)).1, hx, (h2 x (by simp)).2⟩
 refine h1.2.sublist ?_;exact List.Sublist.append_left (List.sublist_cons_self x B) A
theorem ways_none (n crs : Int) : ∀ (d : Nat) (left : List Int) (list : List S39), Pts n left → (∀ c ∈ list, Proper n c) → crs < pairsX list → ways crs d left list = 0
 | 0, _, _, _, _, _ => rfl
 | d + 1, [], list, _, _, h => by
  simp only [ways];rw [if_neg (by omega)]
 | d + 1, a :: rest, list, hP, hl, h => by
  simp only [ways];refine sumS_zero _ rest [] (fun A B x e => ?_);subst e;obtain ⟨p1, p2⟩ := pts_split hP;refine ways_none n crs d _ _ p1 (fun c hc => ?_) ?_
  ·rcases List.mem_append.1 hc with hc | hc
   ·exact hl c hc
   ·rw [List.mem_singleton.1 hc]; exact p2
  ·rw [pairsX_snoc n _ p2 list hl];omega
theorem countPairings_eq (n crs : Int) (hcr : 0 ≤ crs ∧ crs ≤ 1000) : ∀ (d : Nat) (left : List Int) (list : List S39) (k : Nat), left.length < d → d ≤ 13 → left.length ≤ 12 → list.length ≤ 20 → Pts n left → (∀ c ∈ list, Proper n c) → list.length + left.length ≤ 12 → 20 * d + 100 < k →
  impl_countPairings.f k left list (crs - pairsX list) = some (ways crs d left list) := by
 intro d
 induction d with
 | zero => intro left list k h; omega
 | succ d ih =>
  intro left list k hd hd13 hll hls hP hl hsum hk;obtain ⟨k, rfl⟩ : ∃ m, k = m + 1 := ⟨k - 1, by omega⟩;simp only [impl_countPairings.f];by_cases hneg : crs - (pairsX list : Int) < 0
  ·rw [if_pos hneg, ways_none n crs (d + 1) left list hP hl (by omega)]
  ·rw [if_neg hneg]
   cases left with
   | nil =>
    rw [if_pos (by simp)];simp only [ways];by_cases he : (pairsX list : Int) = crs
    ·rw [if_pos (by omega), if_pos he]
    ·rw [if_neg (by omega), if_neg he]
   | cons a rest =>
    rw [if_neg (by simp; omega)];simp only [List.length_cons] at hd hll hsum;have hpw0 := pow12 d (by omega);obtain ⟨Q, hQ⟩ : ∃ Q : Int, (12 : Int) ^ d = Q := ⟨_, rfl⟩;rw [hQ] at hpw0;obtain ⟨hpw, hpw1⟩ := hpw0;have hQH := mk_ hQ;clear hQ;have hpx := pairsX_le list
    have hlen2 : pairsX list ≤ 144 := Nat.le_trans hpx (by
     have := Nat.mul_le_mul (show list.length ≤ 12 by omega) (show list.length ≤ 12 by omega)
     omega)
    have loop : ∀ (post pre : List Int) (cnt : Int) (k : Nat), rest = pre ++ post → 0 ≤ cnt → cnt ≤ pre.length * Q → 20 * d + 100 + post.length + 1 < k →
      impl_countPairings.l0 k (a :: rest) list (crs - pairsX list) cnt ((pre.length : Int) + 1) = some (cnt + sumS (fun lf x => ways crs d lf (list ++ [⟨a, x⟩])) pre post) := by
     intro post
     induction post with
     | nil =>
      intro pre cnt k he h0 h1 hk;obtain ⟨k, rfl⟩ : ∃ m, k = m + 1 := ⟨k - 1, by omega⟩;rw [List.append_nil] at he;simp only [impl_countPairings.l0, sumS];rw [if_neg (by rw [he]; simp)];simp
     | cons x post ihp =>
      intro pre cnt k he h0 h1 hk;obtain ⟨k, rfl⟩ : ∃ m, k = m + 1 := ⟨k - 1, by omega⟩;simp only [List.length_cons] at hk;have hrl : rest.length = pre.length + post.length + 1 := by rw [he]; simp; omega
      obtain ⟨p1, p2⟩ := pts_split (A := pre) (B := post) (x := x) (a := a) (n := n) (by rw [← he]; exact hP);have hax : a < x := p2.2.1;have g1 : ((pre.length : Int) + 1) < ((a :: rest).length : Int) := by simp [hrl]; omega
      have g2 : (0 : Int) < ((a :: rest).length : Int) := by simp [hrl]; try omega
      have g3 : (0 : Int) ≤ (pre.length : Int) + 1 := by omega
      have g4 : (1 : Int) ≤ (pre.length : Int) + 1 := by omega
      have g5 : ((pre.length : Int) + 1) ≤ ((a :: rest).length : Int) := by omega
      have e2 := mk_ (show wrap64 ((pre.length : Int) + 1 + 1) = (pre.length : Int) + 1 + 1 from wrap64_id (by omega) (by omega));have g6 : (0 : Int) ≤ (pre.length : Int) + 1 + 1 := by omega
      have g7 : ((pre.length : Int) + 1 + 1) ≤ ((a :: rest).length : Int) := by simp [hrl]; omega
      have t1 : ((a :: rest).take ((pre.length : Int) + 1).toNat).drop 1 = pre := by
       rw [show ((pre.length : Int) + 1).toNat = pre.length + 1 by omega, he];simp
      have t2 : (a :: rest).drop ((pre.length : Int) + 1 + 1).toNat = post := by
       rw [show ((pre.length : Int) + 1 + 1).toNat = pre.length + 2 by omega, he, List.drop_succ_cons];rw [show pre.length + 1 = (pre ++ [x]).length by simp, show pre ++ x :: post = (pre ++ [x]) ++ post by simp, List.drop_left]
      have t3 : rd (a :: rest) ((pre.length : Int) + 1) = x := by
       unfold rd;rw [show ((pre.length : Int) + 1).toNat = pre.length + 1 by omega, he];simp
      have t4 : rd (a :: rest) 0 = a := rfl
      have t5 : impl_chord.f a x = some (a, x) := by
       unfold impl_chord.f mn mx;rw [if_neg (by omega), if_pos hax]
      have s1 : slices_Clone_int_int.f pre = some pre := by unfold slices_Clone_int_int.f; rw [if_pos (by omega)]
      have s2 : impl_Chord_70.f list = some list := by unfold impl_Chord_70.f; rw [if_pos (by omega)]
      have g8 : pre.length + post.length < 17592186044416 := by omega
      have g9 : list.length + ([(⟨a, x⟩ : S39)] : List S39).length < 8796093022208 := by simp; omega
      have c1 : impl_crossed.f k list a x = some (countX (⟨a, x⟩ : S39) list : Int) := crossed_eq n ⟨a, x⟩ p2 list hl (by omega) k (by omega);have hcx := countX_le (⟨a, x⟩ : S39) list;have hps := pairsX_snoc n _ p2 list hl
      have e3 := mk_ (show wrap64 (crs - (pairsX list : Int) - (countX (⟨a, x⟩ : S39) list : Int)) = crs - (pairsX (list ++ [⟨a, x⟩]) : Int) by
       rw [wrap64_id (by omega) (by omega), hps]
       omega)
      have c2 := ih (pre ++ post) (list ++ [⟨a, x⟩]) k (by rw [List.length_append]; omega) (by omega) (by rw [List.length_append]; omega) (by simp; omega) p1 (fun c hc => by
       rcases List.mem_append.1 hc with hc | hc
       ·exact hl c hc
       ·rw [List.mem_singleton.1 hc]; exact p2) (by simp; omega) (by omega)
      have hb := ways_bound crs d (pre ++ post) (list ++ [⟨a, x⟩]) (by rw [List.length_append]; omega);rw [hQH.out] at hb;have hmul : (pre.length : Int) * Q ≤ 12 * Q := Int.mul_le_mul_of_nonneg_right (by omega) (by omega);have e4 := mk_ (show wrap64 (cnt + ways crs d (pre ++ post) (list ++ [⟨a, x⟩])) = cnt + ways crs d (pre ++ post) (list ++ [⟨a, x⟩]) from wrap64_id (by omega) (by omega))
      have IH := ihp (pre ++ [x]) (cnt + ways crs d (pre ++ post) (list ++ [⟨a, x⟩])) k (by rw [he]; simp) (by omega) (by
       rw [List.length_append, List.length_singleton, Int.natCast_add, Int.add_mul]
       have : ((1 : Nat) : Int) * Q = Q := by simp
       omega) (by omega)
      rw [show (((pre ++ [x]).length : Nat) : Int) + 1 = (pre.length : Int) + 1 + 1 by simp] at IH;simp only [impl_countPairings.l0];rw [if_pos g1, if_pos g2, if_pos g3, t4, t3, t5];simp only [Option.bind_some];rw [if_pos g4, if_pos g5, t1, s1];simp only [Option.bind_some, e2.out];rw [if_pos g6, if_pos g7, t2, if_pos g8, s2];simp only [Option.bind_some];rw [if_pos g9, c1];simp only [Option.bind_some, e3.out];rw [c2];simp only [Option.bind_some, e4.out];rw [IH];simp only [sumS];refine congrArg some ?_;omega
    have := loop rest [] 0 k rfl (by omega) (by simp) (by omega);simp only [List.length_nil, Int.natCast_zero, Int.zero_add] at this;simp only [ways];rw [show (1 : Int) = 0 + 1 from rfl] at *;exact this
theorem srCount_inner (l : List S39) (i : Int) (c : S39) (mid : List S39) (m : List S39) : ∀ (k : Nat) (pre : List S39) (cnt : Int) (r : Option Int), pre ++ m = mid → mid.length ≤ 1000000 → 0 ≤ cnt → cnt + m.length ≤ 4611686018427387904 → m.length < k →
  (∀ k', k ≤ k' + m.length + 1 → k' < k → spec_srCount.l0 k' l (cnt + countX c m) l (l.length : Int) (wrap64 (i + 1)) = r) →
  spec_srCount.l1 k l cnt l (l.length : Int) i mid (mid.length : Int) pre.length c.f0 c.f1 = r := by
 induction m with
 | nil =>
  intro k pre cnt r e hl h0 h1 hk hr;obtain ⟨k, rfl⟩ : ∃ t, k = t + 1 := ⟨k - 1, by omega⟩;rw [List.append_nil] at e;subst e;simp only [spec_srCount.l1];rw [if_neg (by omega)];simpa [countX] using hr k (by simp) (by omega)
 | cons x m ih =>
  intro k pre cnt r e hl h0 h1 hk hr;obtain ⟨k, rfl⟩ : ∃ t, k = t + 1 := ⟨k - 1, by omega⟩;simp only [List.length_cons] at h1 hk hr;have hlen : (mid.length : Int) = pre.length + m.length + 1 := by rw [← e]; simp; omega
  simp only [spec_srCount.l1];have hx : rd_T39 mid (pre.length : Int) = x := by rw [← e]; exact rdC_append pre m x
  rw [if_pos (by omega), if_pos (by omega), if_pos (by omega), hx, srCross_cross];simp only [Option.bind_some];have hpl : (((pre ++ [x]).length : Nat) : Int) = (pre.length : Int) + 1 := by simp
  have IH := fun cnt h0 h1 hr => ih k (pre ++ [x]) cnt r (by simpa using e) hl h0 h1 (by omega) hr
  rw [hpl] at IH;rw [wrap64_id (x := cnt + 1) (by omega) (by omega), wrap64_id (x := (pre.length : Int) + 1) (by omega) (by omega)];by_cases eX : crossB c x = true
  ·rw [if_pos eX];refine IH (cnt + 1) (by omega) (by omega) (fun k' h1 h2 => ?_);have := hr k' (by omega) (by omega);unfold countX at this ⊢;rw [List.countP_cons_of_pos eX] at this;rw [← this];congr 1;omega
  ·rw [if_neg eX];refine IH cnt (by omega) (by omega) (fun k' h1 h2 => ?_);have := hr k' (by omega) (by omega);unfold countX at this ⊢;rw [List.countP_cons_of_neg eX] at this;exact this
theorem srCount_loop (l : List S39) (hl : l.length ≤ 10000) (m : List S39) : ∀ (k : Nat) (pre : List S39) (cnt : Int), pre ++ m = l → 0 ≤ cnt → cnt + m.length * 10000 ≤ 4611686018427387904 → m.length * (l.length + 3) < k →
  spec_srCount.l0 k l cnt l (l.length : Int) pre.length = some (cnt + pairsX m) := by
 induction m with
 | nil =>
  intro k pre cnt e h0 h1 hk;obtain ⟨k, rfl⟩ : ∃ t, k = t + 1 := ⟨k - 1, by omega⟩;rw [List.append_nil] at e;simp only [spec_srCount.l0];rw [if_neg (by rw [e]; omega)];simp [pairsX]
 | cons x m ih =>
  intro k pre cnt e h0 h1 hk;obtain ⟨k, rfl⟩ : ∃ t, k = t + 1 := ⟨k - 1, by omega⟩;have hlen : (l.length : Int) = pre.length + m.length + 1 := by rw [← e]; simp; omega
  simp only [spec_srCount.l0];have hx : rd_T39 l (pre.length : Int) = x := by rw [← e]; exact rdC_append pre m x
  rw [wrap64_id (x := (pre.length : Int) + 1) (by omega) (by omega), if_pos (by omega), if_pos (by omega), if_pos (by omega), if_pos (by omega), if_pos (by omega), hx];simp only [Option.bind_some]
  have hdrop : l.drop (((pre.length : Int) + 1).toNat) = m := by
   rw [show ((pre.length : Int) + 1).toNat = pre.length + 1 by omega, ← e, ← List.drop_drop, List.drop_left];rfl
  rw [hdrop];simp only [List.length_cons] at h1 hk;have hmul : (m.length + 1) * (l.length + 3) = m.length * (l.length + 3) + (l.length + 3) := by rw [Nat.add_mul, Nat.one_mul]
  have hin := srCount_inner l pre.length x m m k [] cnt (some (cnt + pairsX (x :: m))) rfl (by omega) h0 (by omega) (by omega) (fun k' h2 h3 => by
   have h4 := countX_le x m
   have := ih k' (pre ++ [x]) (cnt + countX x m) (by simpa using e) (by omega) (by omega) (by omega)
   have hpl : (((pre ++ [x]).length : Nat) : Int) = (pre.length : Int) + 1 := by simp
   rw [hpl] at this
   rw [wrap64_id (by omega) (by omega), this]
   simp only [pairsX]
   congr 1
   omega)
  simpa using hin
theorem srCount_eq (l : List S39) (hl : l.length ≤ 10000) (k : Nat) (hk : l.length * (l.length + 3) < k) : spec_srCount.f k l = some (pairsX l : Int) := by
 unfold spec_srCount.f;have := srCount_loop l hl l k [] 0 rfl (by omega) (by omega) hk;simpa using this
def freeF (used : List Bool) : Int → Nat → List Int
 | _, 0 => []
 | j, m + 1 => if rdOf false used j = true then freeF used (j + 1) m else j :: freeF used (j + 1) m
theorem freeF_ge (used : List Bool) : ∀ (m : Nat) (j : Int), ∀ x ∈ freeF used j m, j ≤ x ∧ x < j + m
 | 0, j, x, h => by simp [freeF] at h
 | m + 1, j, x, h => by
  simp only [freeF] at h;split at h
  ·have := freeF_ge used m (j + 1) x h;omega
  ·rcases List.mem_cons.1 h with rfl | h
   ·omega
   ·have := freeF_ge used m (j + 1) x h;omega
theorem freeF_sorted (used : List Bool) : ∀ (m : Nat) (j : Int), (freeF used j m).Pairwise (· < ·)
 | 0, j => List.Pairwise.nil
 | m + 1, j => by
  simp only [freeF];split
  ·exact freeF_sorted used m (j + 1)
  ·refine List.Pairwise.cons (fun x hx => ?_) (freeF_sorted used m (j + 1));have := freeF_ge used m (j + 1) x hx;omega
theorem rdOf_set (used : List Bool) (i j : Int) (hi : 0 ≤ i) (hj : 0 ≤ j) (hl : i < used.length) (b : Bool) : rdOf false (used.set i.toNat b) j = if j = i then b else rdOf false used j := by
 unfold rdOf;rw [List.getD_eq_getElem?_getD, List.getD_eq_getElem?_getD, List.getElem?_set];by_cases h : j = i
 ·subst h;rw [if_pos rfl, if_pos (by omega), if_pos rfl];rfl
 ·rw [if_neg (by omega), if_neg h]
theorem freeF_set (used : List Bool) (i : Int) (hi : 0 ≤ i) (hl : i < used.length) : ∀ (m : Nat) (j : Int), 0 ≤ j → freeF (used.set i.toNat true) j m = (freeF used j m).filter (fun x => x != i)
 | 0, j, _ => rfl
 | m + 1, j, hj => by
  have ih := freeF_set used i hi hl m (j + 1) (by omega);simp only [freeF];rw [rdOf_set used i j hi hj hl];by_cases h : j = i
  ·rw [if_pos h, if_pos rfl, ih];split
   ·rfl
   ·rw [List.filter_cons_of_neg (by simp [h])]
  ·rw [if_neg h];split
   ·exact ih
   ·rw [List.filter_cons_of_pos (by simp [h]), ih]
theorem filter_out (A B : List Int) (x : Int) (h : (A ++ x :: B).Pairwise (· < ·)) : (A ++ x :: B).filter (fun y => y != x) = A ++ B := by
 rw [List.pairwise_append] at h;obtain ⟨_, h2, h3⟩ := h;rw [List.pairwise_cons] at h2;rw [List.filter_append, List.filter_cons_of_neg (by simp)];congr 1
 ·refine List.filter_eq_self.2 fun y hy => ?_
  have := h3 y hy x (by simp);simp; omega
 ·refine List.filter_eq_self.2 fun y hy => ?_
  have := h2.1 y hy;simp; omega
theorem set_back (used : List Bool) (i : Int) (hi : 0 ≤ i) (hl : i < used.length) (hf : rdOf false used i = false) : (used.set i.toNat true).set i.toNat false = used := by
 rw [List.set_set];apply List.ext_getElem?;intro q;rw [List.getElem?_set];split
 ·rename_i h;subst h;unfold rdOf at hf;rw [List.getD_eq_getElem?_getD] at hf;have hlt : i.toNat < used.length := by omega
  rw [List.getElem?_eq_getElem hlt] at hf ⊢;rw [if_pos hlt];simp at hf;rw [hf]
 ·rfl
theorem cdFirst (n crs : Int) (used : List Bool) (list : List S39) (hu : (used.length : Int) = n) (hn : n ≤ 12) : ∀ (m : Nat) (k : Nat) (j : Int), 0 ≤ j → j + m = n → m < k →
  (freeF used j m = [] ∧ ∃ k', k ≤ k' + m + 1 ∧ spec_cdCount.l0 k n crs used list j = spec_cdCount.j1 k' n crs used list n) ∨
  (∃ (a : Int) (q : Nat) (k' : Nat), j ≤ a ∧ a + 1 + q = n ∧ rdOf false used a = false ∧ freeF used j m = a :: freeF used (a + 1) q ∧ k ≤ k' + m + 1 ∧ spec_cdCount.l0 k n crs used list j = spec_cdCount.j1 k' n crs used list a) := by
 intro m
 induction m with
 | zero =>
  intro k j h0 h1 hk;obtain ⟨k, rfl⟩ : ∃ t, k = t + 1 := ⟨k - 1, by omega⟩;obtain rfl : j = n := by omega
  refine .inl ⟨rfl, k, by omega, ?_⟩;simp only [spec_cdCount.l0];rw [if_neg (by omega)]
 | succ m ih =>
  intro k j h0 h1 hk;obtain ⟨k, rfl⟩ : ∃ t, k = t + 1 := ⟨k - 1, by omega⟩;have g1 : j < n := by omega
  have g2 : j < (used.length : Int) := by omega
  simp only [spec_cdCount.l0, freeF];rw [if_pos g1, if_pos h0, if_pos g2];by_cases hr : rdOf false used j = true
  ·simp only [if_pos hr];rw [wrap64_id (by omega) (by omega)];rcases ih k (j + 1) (by omega) (by omega) (by omega) with ⟨e1, k', e2, e3⟩ | ⟨a, q, k', e1, e2, e3, e4, e5, e6⟩
   ·exact .inl ⟨e1, k', by omega, e3⟩
   ·exact .inr ⟨a, q, k', by omega, e2, e3, e4, by omega, e6⟩
  ·simp only [if_neg hr];exact .inr ⟨j, m, k, by omega, by omega, by simpa using hr, rfl, by omega, rfl⟩
theorem cdCount_eq (n crs : Int) (hn : 0 ≤ n ∧ n ≤ 12) : ∀ (d : Nat) (used : List Bool) (list : List S39) (k : Nat), (used.length : Int) = n → (freeF used 0 n.toNat).length < d → d ≤ 13 → (freeF used 0 n.toNat).length ≤ 12 → list.length + (freeF used 0 n.toNat).length ≤ 12 → (∀ c ∈ list, Proper n c) → 40 * d + 3000 < k →
  spec_cdCount.f k n crs used list = some (ways crs d (freeF used 0 n.toNat) list, used) := by
 intro d
 induction d with
 | zero => intro used list k _ h; omega
 | succ d ih =>
  intro used list k hu hd hd13 hfl hsum hl hk;obtain ⟨k, rfl⟩ : ∃ t, k = t + 1 := ⟨k - 1, by omega⟩;simp only [spec_cdCount.f];rcases cdFirst n crs used list hu hn.2 n.toNat k 0 (by omega) (by omega) (by omega) with ⟨e1, k', e2, e3⟩ | ⟨a, q, k', a0, a1, a2, e1, e2, e3⟩
  ·rw [e3, e1];obtain ⟨k', rfl⟩ : ∃ t, k' = t + 1 := ⟨k' - 1, by omega⟩;have hll : list.length * (list.length + 3) ≤ 200 := Nat.le_trans (Nat.mul_le_mul (show list.length ≤ 12 by omega) (show list.length + 3 ≤ 15 by omega)) (by omega);simp only [spec_cdCount.j1, ways];rw [if_pos trivial, srCount_eq list (by omega) k' (by omega)];simp only [Option.bind_some];split <;> rfl
  ·rw [e3];have hS := freeF_sorted used n.toNat 0;have hG := freeF_ge used n.toNat 0;have hP : Pts n (freeF used 0 n.toNat) := ⟨hS, fun x hx => by have := hG x hx; omega⟩;rw [e1] at hd hfl hsum hP hS ⊢;obtain ⟨k', rfl⟩ : ∃ t, k' = t + 1 := ⟨k' - 1, by omega⟩;have ha : a < (used.length : Int) := by omega
   simp only [spec_cdCount.j1, List.length_cons] at hd hfl hsum ⊢;rw [if_neg (by omega), if_pos (by omega), if_pos ha, wrap64_id (by omega) (by omega)];have hpw0 := pow12 d (by omega);obtain ⟨Q, hQ⟩ : ∃ Q : Int, (12 : Int) ^ d = Q := ⟨_, rfl⟩;rw [hQ] at hpw0;obtain ⟨hpw, hpw1⟩ := hpw0;have hQH := mk_ hQ;clear hQ
   have loop : ∀ (m : Nat) (pre : List Int) (j cnt : Int) (k : Nat), a < j → j + m = n → freeF used (a + 1) q = pre ++ freeF used j m → 0 ≤ cnt → cnt ≤ pre.length * Q → 40 * d + 3000 + m + 1 < k →
     spec_cdCount.l1 k n crs (used.set a.toNat true) list a cnt j = some (cnt + sumS (fun lf x => ways crs d lf (list ++ [⟨a, x⟩])) pre (freeF used j m), used) := by
    intro m
    induction m with
    | zero =>
     intro pre j cnt k h0 h1 hf hc0 hc1 hk;obtain ⟨k, rfl⟩ : ∃ t, k = t + 1 := ⟨k - 1, by omega⟩;simp only [spec_cdCount.l1, freeF, sumS];rw [if_neg (by omega), if_pos (by omega), if_pos (by rw [List.length_set]; omega), set_back used a (by omega) ha a2];simp
    | succ m ihm =>
     intro pre j cnt k h0 h1 hf hc0 hc1 hk;obtain ⟨k, rfl⟩ : ∃ t, k = t + 1 := ⟨k - 1, by omega⟩;have hrd : rdOf false (used.set a.toNat true) j = rdOf false used j := by rw [rdOf_set used a j (by omega) (by omega) ha, if_neg (by omega)]
     simp only [spec_cdCount.l1];rw [if_pos (by omega), if_pos (by omega), if_pos (by rw [List.length_set]; omega), hrd, wrap64_id (x := j + 1) (by omega) (by omega)];simp only [freeF] at hf ⊢;by_cases hr : rdOf false used j = true
     ·rw [if_pos hr] at hf ⊢;rw [if_pos hr];exact ihm pre (j + 1) cnt k (by omega) (by omega) hf hc0 hc1 (by omega)
     ·rw [if_neg hr] at hf ⊢;rw [if_neg hr];have hfa : freeF used 0 n.toNat = a :: (pre ++ j :: freeF used (j + 1) m) := by rw [e1, hf]
      have hPa : Pts n (a :: (pre ++ j :: freeF used (j + 1) m)) := by rw [← hf]; exact hP
      obtain ⟨p1, p2⟩ := pts_split hPa;have hlen : (freeF used (a + 1) q).length = pre.length + (freeF used (j + 1) m).length + 1 := by rw [hf]; simp; omega
      have hj : j < ((used.set a.toNat true).length : Int) := by rw [List.length_set]; omega
      have hff : freeF ((used.set a.toNat true).set j.toNat true) 0 n.toNat = pre ++ freeF used (j + 1) m := by
       rw [freeF_set (used.set a.toNat true) j (by omega) hj n.toNat 0 (by omega), freeF_set used a (by omega) ha n.toNat 0 (by omega), hfa];have h1 := hPa.1;have h2 := filter_out [] (pre ++ j :: freeF used (j + 1) m) a h1;rw [List.nil_append, List.nil_append] at h2;rw [h2];exact filter_out _ _ _ (List.pairwise_cons.1 h1).2
      have c1 := ih ((used.set a.toNat true).set j.toNat true) (list ++ [⟨a, j⟩]) k (by simpa using hu) (by rw [hff, List.length_append]; omega) (by omega) (by rw [hff, List.length_append]; omega) (by rw [hff, List.length_append, List.length_append]; simp; omega) (fun c hc => by
       rcases List.mem_append.1 hc with hc | hc
       ·exact hl c hc
       ·rw [List.mem_singleton.1 hc]; exact p2) (by omega)
      rw [hff] at c1;have hb := ways_bound crs d (pre ++ freeF used (j + 1) m) (list ++ [⟨a, j⟩]) (by rw [List.length_append]; omega);rw [hQH.out] at hb;have hmul : (pre.length : Int) * Q ≤ 12 * Q := Int.mul_le_mul_of_nonneg_right (by omega) (by omega);have e4 := mk_ (show wrap64 (cnt + ways crs d (pre ++ freeF used (j + 1) m) (list ++ [⟨a, j⟩])) = cnt + ways crs d (pre ++ freeF used (j + 1) m) (list ++ [⟨a, j⟩]) from wrap64_id (by omega) (by omega));have hsb : ((used.set a.toNat true).set j.toNat true).set j.toNat false = used.set a.toNat true := set_back _ j (by omega) hj (by rw [hrd]; simpa using hr)
      have IH := ihm (pre ++ [j]) (j + 1) (cnt + ways crs d (pre ++ freeF used (j + 1) m) (list ++ [⟨a, j⟩])) k (by omega) (by omega) (by rw [hf]; simp) (by omega) (by
       rw [List.length_append, List.length_singleton, Int.natCast_add, Int.add_mul]
       have : ((1 : Nat) : Int) * Q = Q := by simp
       omega) (by omega)
      have g1 : ([] : List S39).length + list.length < 8796093022208 := by simp; omega
      have g2 : list.length < 8796093022208 := by omega
      simp only [Option.bind_some, if_pos g1, List.nil_append, if_pos g2];rw [c1];simp only [Option.bind_some, hsb, e4.out];rw [IH];simp only [sumS];refine congrArg some ?_;rw [Int.add_assoc]
   have := loop q [] (a + 1) 0 k' (by omega) (by omega) rfl (by omega) (by simp) (by omega);rw [this];simp only [ways, Int.zero_add]
theorem spec_plane (M : Nat) (hM : M ≤ 15) : ∀ (d m : Nat), m ≤ d → m ≤ M → ∀ (k : Nat) (a r : Int), 20 * m + 1 ≤ k → 0 ≤ a → a + 2 * m ≤ 1000 → 0 ≤ r → r < cat m → spec_cdOfRank.f k a (2 * (m : Int)) r (waysL (2 * M)) = some (plF d m a r) := by
 intro d
 induction d with
 | zero =>
  intro m hd hm k a r hk ha ha2 h0 h1;obtain rfl : m = 0 := by omega
  obtain ⟨k, rfl⟩ : ∃ t, k = t + 1 := ⟨k - 1, by omega⟩;simp only [spec_cdOfRank.f, plF];rw [if_pos (by omega)]
 | succ d ih =>
  intro m hd hm k a r hk ha ha2 h0 h1;obtain ⟨k, rfl⟩ : ∃ t, k = t + 1 := ⟨k - 1, by omega⟩;simp only [spec_cdOfRank.f, plF];by_cases hz : m = 0
  ·subst hz; rw [if_pos (by omega), if_pos rfl]
  ·rw [if_neg (by omega), if_neg hz];have ht := tot_eq m (by omega) (by omega);have hW := waysL_len (2 * M)
   have loop : ∀ (t j k : Nat) (r : Int), j + t = m → 20 * (m - 1) + 1 + t ≤ k → 0 ≤ r → r ≤ 10000000 → r < tot m t j →
     spec_cdOfRank.l0 k a (2 * (m : Int)) r (waysL (2 * M)) (2 * (j : Int) + 1) = some (⟨a, a + (2 * ((pick m t j r).1 : Int) + 1)⟩ :: (plF d (pick m t j r).1 (a + 1) ((pick m t j r).2 / cat (m - 1 - (pick m t j r).1)) ++ plF d (m - 1 - (pick m t j r).1) (a + (2 * ((pick m t j r).1 : Int) + 2)) ((pick m t j r).2 % cat (m - 1 - (pick m t j r).1)))) := by
    intro t
    induction t with
    | zero => intro j k r _ _ hr0 _ hr1; simp only [tot] at hr1; omega
    | succ t iht =>
     intro j k r hj hk hr0 hrb hr1;obtain ⟨k, rfl⟩ : ∃ t, k = t + 1 := ⟨k - 1, by omega⟩;have e1 : wrap64 (2 * (j : Int) + 1 - 1) = 2 * (j : Int) := by rw [wrap64_id (by omega) (by omega)]; omega
     have e2 : wrap64 (wrap64 (2 * (m : Int) - 1) - (2 * (j : Int) + 1)) = 2 * ((m - 1 - j : Nat) : Int) := by
      rw [wrap64_id (x := 2 * (m : Int) - 1) (by omega) (by omega), wrap64_id (by omega) (by omega)]; omega
     have c1 := cat_pos j (by omega);have c2 := cat_pos (m - 1 - j) (by omega);have c3 := cat_mul j (m - 1 - j) (by omega) (by omega);have e3 : wrap64 (cat j * cat (m - 1 - j)) = cat j * cat (m - 1 - j) := wrap64_id (by omega) (by omega);simp only [spec_cdOfRank.l0, e1, e2];rw [if_pos (by omega), if_pos (by omega), if_pos (by omega), if_pos (by omega), if_pos (by omega), waysL_rd _ j (by omega), waysL_rd _ (m - 1 - j) (by omega), e3];unfold pick;by_cases hlt : r < cat j * cat (m - 1 - j)
     ·rw [if_pos hlt, if_pos hlt];simp only;obtain ⟨⟨q1, q2⟩, q3, q4⟩ := parts_in c1.1 c2.1 hr0 hlt
      have e4 : wrap64 (Int.tdiv r (cat (m - 1 - j))) = r / cat (m - 1 - j) := by
       rw [Int.tdiv_eq_ediv_of_nonneg hr0, wrap64_id (by omega) (by omega)]
      have e5 : Int.tmod r (cat (m - 1 - j)) = r % cat (m - 1 - j) := Int.tmod_eq_emod_of_nonneg hr0;have e6 : wrap64 (a + 1) = a + 1 := wrap64_id (by omega) (by omega)
      have e7 : wrap64 (wrap64 (a + (2 * (j : Int) + 1)) + 1) = a + (2 * (j : Int) + 2) := by
       rw [wrap64_id (x := a + (2 * (j : Int) + 1)) (by omega) (by omega), wrap64_id (by omega) (by omega)]; omega
      have e8 : wrap64 (a + (2 * (j : Int) + 1)) = a + (2 * (j : Int) + 1) := wrap64_id (by omega) (by omega);have e9 : wrap64 (a + (2 * (j : Int) + 1) + 1) = a + (2 * (j : Int) + 2) := by rw [wrap64_id (by omega) (by omega)]; omega
      obtain ⟨_, _, s3⟩ := plF_ok d j (a + 1) (r / cat (m - 1 - j)) (by omega) (by omega) q1 q2;obtain ⟨_, _, s6⟩ := plF_ok d (m - 1 - j) (a + (2 * (j : Int) + 2)) (r % cat (m - 1 - j)) (by omega) (by omega) q3 q4;simp only [e4, e5, e6, e8, e9, Option.bind_some];rw [if_neg (by omega), ih j (by omega) (by omega) k (a + 1) _ (by omega) (by omega) (by omega) q1 q2];simp only [Option.bind_some];rw [if_pos (by rw [s3]; simp; omega), ih (m - 1 - j) (by omega) (by omega) k _ _ (by omega) (by omega) (by omega) q3 q4];simp only [Option.bind_some];rw [if_pos (by rw [s6]; simp [s3]; omega)];simp
     ·rw [if_neg hlt, if_neg hlt];simp only [tot] at hr1;have e4 : wrap64 (r - cat j * cat (m - 1 - j)) = r - cat j * cat (m - 1 - j) := wrap64_id (by omega) (by omega);have e5 : wrap64 (2 * (j : Int) + 1 + 2) = 2 * ((j + 1 : Nat) : Int) + 1 := by rw [wrap64_id (by omega) (by omega)]; omega
      rw [e4, e5];exact iht (j + 1) k _ (by omega) (by omega) (by omega) (by omega) (by omega)
   have hcm := cat_pos m (by omega);exact loop m 0 k r (by omega) (by omega) h0 (by omega) (by rw [ht]; exact h1)
theorem impl_plane : ∀ (d m : Nat), m ≤ d → m ≤ 15 → ∀ (k : Nat) (a r : Int), 20 * m + 30 ≤ k → 0 ≤ a → a + 2 * m ≤ 1000 → 0 ≤ r → r < cat m → impl_planeOfRank.f k a (2 * (m : Int)) r = some (plF d m a r) := by
 intro d
 induction d with
 | zero =>
  intro m hd hm k a r hk ha ha2 h0 h1;obtain rfl : m = 0 := by omega
  obtain ⟨k, rfl⟩ : ∃ t, k = t + 1 := ⟨k - 1, by omega⟩;simp only [impl_planeOfRank.f, plF];rw [if_pos (by omega)]
 | succ d ih =>
  intro m hd hm k a r hk ha ha2 h0 h1;obtain ⟨k, rfl⟩ : ∃ t, k = t + 1 := ⟨k - 1, by omega⟩;simp only [impl_planeOfRank.f, plF];by_cases hz : m = 0
  ·subst hz; rw [if_pos (by omega), if_pos rfl]
  ·rw [if_neg (by omega), if_neg hz];have ht := tot_eq m (by omega) (by omega)
   have loop : ∀ (t j k : Nat) (r : Int), j + t = m → 20 * (m - 1) + 30 + t ≤ k → 0 ≤ r → r ≤ 10000000 → r < tot m t j →
     impl_planeOfRank.l0 k a (2 * (m : Int)) r (2 * (j : Int)) = some (⟨a, a + (2 * ((pick m t j r).1 : Int) + 1)⟩ :: (plF d (pick m t j r).1 (a + 1) ((pick m t j r).2 / cat (m - 1 - (pick m t j r).1)) ++ plF d (m - 1 - (pick m t j r).1) (a + (2 * ((pick m t j r).1 : Int) + 2)) ((pick m t j r).2 % cat (m - 1 - (pick m t j r).1)))) := by
    intro t
    induction t with
    | zero => intro j k r _ _ hr0 _ hr1; simp only [tot] at hr1; omega
    | succ t iht =>
     intro j k r hj hk hr0 hrb hr1;obtain ⟨k, rfl⟩ : ∃ t, k = t + 1 := ⟨k - 1, by omega⟩
     have e2 : wrap64 (wrap64 (2 * (m : Int) - 2) - 2 * (j : Int)) = 2 * ((m - 1 - j : Nat) : Int) := by
      rw [wrap64_id (x := 2 * (m : Int) - 2) (by omega) (by omega), wrap64_id (by omega) (by omega)]; omega
     have c1 := cat_pos j (by omega);have c2 := cat_pos (m - 1 - j) (by omega);have c3 := cat_mul j (m - 1 - j) (by omega) (by omega);have e3 : wrap64 (cat j * cat (m - 1 - j)) = cat j * cat (m - 1 - j) := wrap64_id (by omega) (by omega);simp only [impl_planeOfRank.l0, e2, countPlane_eq j (by omega) k (by omega), countPlane_eq (m - 1 - j) (by omega) k (by omega), Option.bind_some, e3];unfold pick;by_cases hlt : r < cat j * cat (m - 1 - j)
     ·rw [if_neg (by omega), if_pos hlt];simp only;obtain ⟨⟨q1, q2⟩, q3, q4⟩ := parts_in c1.1 c2.1 hr0 hlt
      have e4 : wrap64 (Int.tdiv r (cat (m - 1 - j))) = r / cat (m - 1 - j) := by
       rw [Int.tdiv_eq_ediv_of_nonneg hr0, wrap64_id (by omega) (by omega)]
      have e5 : Int.tmod r (cat (m - 1 - j)) = r % cat (m - 1 - j) := Int.tmod_eq_emod_of_nonneg hr0;have e6 : wrap64 (a + 1) = a + 1 := wrap64_id (by omega) (by omega)
      have e7 : wrap64 (wrap64 (a + 2) + 2 * (j : Int)) = a + (2 * (j : Int) + 2) := by
       rw [wrap64_id (x := a + 2) (by omega) (by omega), wrap64_id (by omega) (by omega)]; omega
      have e8 : wrap64 (a + 1 + 2 * (j : Int)) = a + (2 * (j : Int) + 1) := by rw [wrap64_id (by omega) (by omega)]; omega
      have e9 : wrap64 (a + 2) = a + 2 := wrap64_id (by omega) (by omega);have e10 : wrap64 (a + 2 + 2 * (j : Int)) = a + (2 * (j : Int) + 2) := by rw [wrap64_id (by omega) (by omega)]; omega
      obtain ⟨_, _, s3⟩ := plF_ok d j (a + 1) (r / cat (m - 1 - j)) (by omega) (by omega) q1 q2;obtain ⟨_, _, s6⟩ := plF_ok d (m - 1 - j) (a + (2 * (j : Int) + 2)) (r % cat (m - 1 - j)) (by omega) (by omega) q3 q4;simp only [e4, e5, e6, e8, e9, e10];rw [if_neg (by omega), ih j (by omega) (by omega) k (a + 1) _ (by omega) (by omega) (by omega) q1 q2];simp only [Option.bind_some];rw [if_pos (by rw [s3]; simp; omega)];rw [if_neg (by omega), ih (m - 1 - j) (by omega) (by omega) k _ _ (by omega) (by omega) (by omega) q3 q4];simp only [Option.bind_some];rw [if_pos (by rw [s6]; simp [s3]; omega)];simp
     ·rw [if_pos (by omega), if_neg hlt];simp only [tot] at hr1;have e4 : wrap64 (r - cat j * cat (m - 1 - j)) = r - cat j * cat (m - 1 - j) := wrap64_id (by omega) (by omega);have e5 : wrap64 (2 * (j : Int) + 2) = 2 * ((j + 1 : Nat) : Int) := by rw [wrap64_id (by omega) (by omega)]; omega
      rw [e4, e5];exact iht (j + 1) k _ (by omega) (by omega) (by omega) (by omega) (by omega)
   have hcm := cat_pos m (by omega);have := loop m 0 k r (by omega) (by omega) h0 (by omega) (by rw [ht]; exact h1);simpa using this
theorem planeOfRank_both (n x : Int) : ∃ r : List S39 × Bool, r.1.length ≤ 40 ∧ (r = if 4 ≤ n ∧ n ≤ 30 ∧ Int.tmod n 2 = 0 ∧ 0 ≤ x ∧ x < cat (n / 2).toNat then (plF (n / 2).toNat (n / 2).toNat 0 x, true) else ([], false)) ∧ ∀ k, 1000 ≤ k → spec_PlanePairingOfRank.f k n x = some r ∧ impl_PlanePairingOfRank.f k n x = some r := by
 by_cases h : 4 ≤ n ∧ n ≤ 30 ∧ Int.tmod n 2 = 0
 ·have e2 : Int.tmod n 2 = n % 2 := Int.tmod_eq_emod_of_nonneg (by omega);obtain ⟨m, rfl⟩ : ∃ m : Nat, n = 2 * (m : Int) := ⟨(n / 2).toNat, by omega⟩;have h' : 3 ≤ 2 * (m : Int) ∧ 2 * (m : Int) ≤ 60 ∧ Int.tmod (2 * (m : Int)) 2 = 0 ∧ 2 * (m : Int) ≤ 30 := by omega
  have hc := cat_pos m (by omega);have hW := waysL_len (2 * m);have ew : wrap64 (cat m - 1) = cat m - 1 := wrap64_id (by omega) (by omega);by_cases hx : 0 ≤ x ∧ x ≤ cat m - 1
  ·obtain ⟨s1, s2, s3⟩ := plF_ok m m 0 x (by omega) (by omega) hx.1 (by omega);refine ⟨(plF m m 0 x, true), by simp only; omega, by rw [show (2 * (m : Int) / 2).toNat = m by omega, if_pos ⟨h.1, h.2.1, h.2.2, hx.1, by omega⟩], fun k hk => ?_⟩;obtain ⟨k, rfl⟩ : ∃ t, k = t + 1 := ⟨k - 1, by omega⟩;unfold spec_PlanePairingOfRank.f impl_PlanePairingOfRank.f;simp only [planePoints_eq, isEven_eq, if_pos (decide_eq_true h), if_pos (decide_eq_true h'), Option.bind_some, cdPlane_eq m (by omega) (by omega) (k + 1) (by omega), countPlane_eq m (by omega) (k + 1) (by omega), ew, within_eq, impl_PlanePairingOfRank.j0, impl_plane m m (by omega) (by omega) k 0 x (by omega) (by omega) (by omega) hx.1 (by omega)];constructor
   ·rw [if_pos (by omega), if_pos (by omega), waysL_rd _ m (by omega), ew, l1In_eq];simp only [Option.bind_some, if_pos (decide_eq_true hx), spec_plane m (by omega) m m (by omega) (by omega) (k + 1) 0 x (by omega) (by omega) (by omega) hx.1 (by omega)]
   ·rw [decide_eq_true hx, ordered_eq _ (by omega), ordL_self _ s1];simp
  ·refine ⟨([], false), by simp, by rw [show (2 * (m : Int) / 2).toNat = m by omega, if_neg (fun z => hx ⟨z.2.2.2.1, by omega⟩)], fun k hk => ?_⟩;obtain ⟨k, rfl⟩ : ∃ t, k = t + 1 := ⟨k - 1, by omega⟩;unfold spec_PlanePairingOfRank.f impl_PlanePairingOfRank.f;simp only [planePoints_eq, isEven_eq, if_pos (decide_eq_true h), if_pos (decide_eq_true h'), Option.bind_some, cdPlane_eq m (by omega) (by omega) (k + 1) (by omega), countPlane_eq m (by omega) (k + 1) (by omega), ew, within_eq, impl_PlanePairingOfRank.j0];constructor
   ·rw [if_pos (by omega), if_pos (by omega), waysL_rd _ m (by omega), ew, l1In_eq, decide_eq_false hx];simp
   ·rw [decide_eq_false hx];simp
 ·have h' : ¬ (3 ≤ n ∧ n ≤ 60 ∧ Int.tmod n 2 = 0 ∧ n ≤ 30) := by
   intro hh;have e2 : Int.tmod n 2 = n % 2 := Int.tmod_eq_emod_of_nonneg (by omega);omega
  refine ⟨([], false), by simp, (if_neg (fun z => h ⟨z.1, z.2.1, z.2.2.1⟩)).symm, fun k hk => ?_⟩;obtain ⟨k, rfl⟩ : ∃ t, k = t + 1 := ⟨k - 1, by omega⟩;unfold spec_PlanePairingOfRank.f impl_PlanePairingOfRank.f;simp only [planePoints_eq, isEven_eq, decide_eq_false h, decide_eq_false h', Option.bind_some, impl_PlanePairingOfRank.j0];simp
theorem rank_both (n : Int) (l : List S39) (hl : l.length ≤ 1048576) : ∃ r : Int × Bool, (r.2 = true → ∃ m : Nat, n = 2 * (m : Int) ∧ 2 ≤ m ∧ m ≤ 15 ∧ 0 ≤ r.1 ∧ r.1 < cat m ∧ plF m m 0 r.1 = l) ∧ (4 ≤ n ∧ n ≤ 30 ∧ Int.tmod n 2 = 0 → goodB n l = true → pairsX l = 0 → allOne (incL l (List.replicate n.toNat 0)) = true → r.2 = true) ∧ ∀ k, l.length + 100000 ≤ k → spec_RankOfPlanePairing.f k n l = some r ∧ impl_RankOfPlanePairing.f k n l = some r := by
 by_cases hn : 4 ≤ n ∧ n ≤ 30 ∧ Int.tmod n 2 = 0
 ·by_cases h : goodB n l = true
  ·obtain ⟨h1, h2, h3, h4⟩ := good_spec n l h;obtain ⟨p, rfl⟩ : ∃ p : Nat, n = p := ⟨n.toNat, by omega⟩;have hm : l.length * (l.length + 3) ≤ 40 * 43 := Nat.mul_le_mul (by omega) (by omega);have hJ := partners_eq p (by omega) (by omega) l h4;by_cases hx : pairsX l = 0
   ·by_cases ho : allOne (incL l (List.replicate p 0)) = true
    ·rcases hJ 100000 (by omega) with ⟨_, e⟩ | ⟨ys, ej, ey, _⟩
     ·rw [ho] at e; cases e
     ·have hmem : ¬ (-1 : Int) ∈ ys := by
       rcases join_inc p l (List.replicate p (-1)) (List.replicate p 0) (by simp) (by simp) (fun q hq => .inl ⟨rd_rep _ _ _ hq, rd_rep _ _ _ hq⟩) h4 with ⟨e, _⟩ | ⟨zs, e, _, e2⟩
       ·rw [ej] at e; simp at e
       ·rw [ej] at e;simp only [Option.some.injEq] at e;subst e;rw [ho] at e2;intro hh;rw [decide_eq_true hh] at e2;cases e2
      have P := planeJ_of p l ys h4 ej ey hmem hx
      obtain ⟨m, r, e1, r0, r1, M, I, S⟩ := rank_main p (by omega) l (by omega) h4 ys P p 0 p (by omega) (by omega) (by omega) (fun q _ hq => by
       obtain ⟨s, hs, e, _, _⟩ := P.inv q hq
       rw [e]; omega)
      refine ⟨(r, true), fun _ => ⟨m, by omega, by omega, by omega, r0, r1, ?_⟩, fun _ _ _ _ => rfl, fun k hk => ?_⟩
      ·refine strict_unique _ _ (plF_ok m m 0 r (by omega) (by omega) r0 r1).1 h3 (fun c => ?_);have := M m (Nat.le_refl _) c;simp only [Int.natCast_zero] at this;rw [this];refine ⟨fun z => z.1, fun z => ⟨z, ?_⟩⟩;have hp := h4 c z;unfold Proper at hp;omega
      obtain ⟨t, rfl⟩ : ∃ t, k = t + 1 := ⟨k - 1, by omega⟩;have hpm : (p : Int) = 2 * (m : Int) := by omega
      have hways := cdPlane_eq m (by omega) (by omega) t (by omega);rw [← hpm, show 2 * m = p by omega] at hways;have hI := I t (by omega);have hS := S t (by omega);rw [show 2 * m = p by omega] at hS;simp only [Int.natCast_zero] at hI hS;unfold spec_RankOfPlanePairing.f impl_RankOfPlanePairing.f;have hev : (3 ≤ (p : Int) ∧ (p : Int) ≤ 60 ∧ Int.tmod p 2 = 0 ∧ (p : Int) ≤ 30) := by omega
      simp only [planePoints_eq, isEven_eq, decide_eq_true hn, decide_eq_true hev, Option.bind_some, if_true, cdGood_eq (p : Int) l (by omega) (t + 1) (by omega), areChords_eq (p : Int) l (by omega) (t + 1) (by omega), h, cdPairing_eq p (by omega) l h4 (by omega) (t + 1) (by omega), ho, cdPairs_eq l (by omega) (t + 1) (by omega), crossings_eq (p : Int) l h4 (by omega) (t + 1) (by omega), allP_len, hx, spec_RankOfPlanePairing.j0, impl_RankOfPlanePairing.j0, hways];rcases hJ t (by omega) with ⟨_, e⟩ | ⟨zs, ej2, _, e⟩
      ·rw [ho] at e; cases e
      ·rw [ej] at ej2;simp only [Option.some.injEq] at ej2;subst ej2;rw [e, ho];simp [hI, hS]
    ·refine ⟨(0, false), (fun z => by cases z), (fun _ _ _ z => absurd z ho), fun k hk => ?_⟩;obtain ⟨t, rfl⟩ : ∃ t, k = t + 1 := ⟨k - 1, by omega⟩;have ho' := Bool.eq_false_iff.2 ho;unfold spec_RankOfPlanePairing.f impl_RankOfPlanePairing.f;have hev : (3 ≤ (p : Int) ∧ (p : Int) ≤ 60 ∧ Int.tmod p 2 = 0 ∧ (p : Int) ≤ 30) := by omega
     simp only [planePoints_eq, isEven_eq, decide_eq_true hn, decide_eq_true hev, Option.bind_some, if_true, cdGood_eq (p : Int) l (by omega) (t + 1) (by omega), areChords_eq (p : Int) l (by omega) (t + 1) (by omega), h, cdPairing_eq p (by omega) l h4 (by omega) (t + 1) (by omega), ho', crossings_eq (p : Int) l h4 (by omega) (t + 1) (by omega), hx, spec_RankOfPlanePairing.j0, impl_RankOfPlanePairing.j0];rcases hJ t (by omega) with ⟨e, _⟩ | ⟨zs, _, _, e⟩
     ·rw [e]; simp
     ·rw [e, ho']; simp
   ·refine ⟨(0, false), (fun z => by cases z), (fun _ _ z _ => absurd z hx), fun k hk => ?_⟩;obtain ⟨t, rfl⟩ : ∃ t, k = t + 1 := ⟨k - 1, by omega⟩;have hx1 : ((pairsX l : Nat) : Int) > 0 := by omega
    unfold spec_RankOfPlanePairing.f impl_RankOfPlanePairing.f;have hev : (3 ≤ (p : Int) ∧ (p : Int) ≤ 60 ∧ Int.tmod p 2 = 0 ∧ (p : Int) ≤ 30) := by omega
    simp only [planePoints_eq, isEven_eq, decide_eq_true hn, decide_eq_true hev, Option.bind_some, if_true, cdGood_eq (p : Int) l (by omega) (t + 1) (by omega), areChords_eq (p : Int) l (by omega) (t + 1) (by omega), h, cdPairing_eq p (by omega) l h4 (by omega) (t + 1) (by omega), cdPairs_eq l (by omega) (t + 1) (by omega), crossings_eq (p : Int) l h4 (by omega) (t + 1) (by omega), allP_len, decide_eq_true hx1, spec_RankOfPlanePairing.j0, impl_RankOfPlanePairing.j0];simp
  ·refine ⟨(0, false), (fun z => by cases z), (fun _ z _ _ => absurd z h), fun k hk => ?_⟩;obtain ⟨t, rfl⟩ : ∃ t, k = t + 1 := ⟨k - 1, by omega⟩;have hev : (3 ≤ n ∧ n ≤ 60 ∧ Int.tmod n 2 = 0 ∧ n ≤ 30) := by omega
   have h' := Bool.eq_false_iff.2 h;unfold spec_RankOfPlanePairing.f impl_RankOfPlanePairing.f;simp only [planePoints_eq, isEven_eq, decide_eq_true hn, decide_eq_true hev, Option.bind_some, if_true, cdGood_eq n l (by omega) (t + 1) (by omega), areChords_eq n l (by omega) (t + 1) (by omega), h', spec_RankOfPlanePairing.j0, impl_RankOfPlanePairing.j0];simp
 ·refine ⟨(0, false), (fun z => by cases z), (fun z _ _ _ => absurd z hn), fun k hk => ?_⟩;obtain ⟨t, rfl⟩ : ∃ t, k = t + 1 := ⟨k - 1, by omega⟩
  have hev : ¬ (3 ≤ n ∧ n ≤ 60 ∧ Int.tmod n 2 = 0 ∧ n ≤ 30) := by
   by_cases e3 : n = 3
   ·subst e3; decide
   ·exact fun hh => hn ⟨by omega, hh.2.2.2, hh.2.2.1⟩
  unfold spec_RankOfPlanePairing.f impl_RankOfPlanePairing.f;simp only [planePoints_eq, isEven_eq, decide_eq_false hn, decide_eq_false hev, Option.bind_some, spec_RankOfPlanePairing.j0, impl_RankOfPlanePairing.j0];simp
theorem isPairing_both (n : Int) (l : List S39) (hl : l.length ≤ 1048576) : ∃ r : Bool × Bool, (r = if goodB n l = true then (allOne (incL l (List.replicate n.toNat 0)), true) else (false, false)) ∧ ∀ k, l.length + 10000 ≤ k → spec_IsPairing.f k n l = some r ∧ impl_IsPairing.f k n l = some r := by
 by_cases h : goodB n l = true
 ·obtain ⟨h1, h2, h3, h4⟩ := good_spec n l h;obtain ⟨p, rfl⟩ : ∃ p : Nat, n = p := ⟨n.toNat, by omega⟩;refine ⟨(allOne (incL l (List.replicate p 0)), true), by rw [if_pos h, Int.toNat_natCast], fun k hk => ?_⟩;unfold spec_IsPairing.f impl_IsPairing.f;simp only [cdGood_eq (p : Int) l (by omega) k (by omega), isSet_eq (p : Int) l (by omega) k (by omega), Option.bind_some, if_pos h, cdPairing_eq p (by omega) l h4 (by omega) k (by omega)];refine ⟨trivial, ?_⟩;rcases partners_eq p (by omega) (by omega) l h4 k (by omega) with ⟨e, h⟩ | ⟨ys, _, _, e⟩
  ·rw [e, h]; rfl
  ·rw [e]; rfl
 ·refine ⟨(false, false), (if_neg h).symm, fun k hk => ?_⟩;unfold spec_IsPairing.f impl_IsPairing.f;simp only [cdGood_eq n l (by omega) k (by omega), isSet_eq n l (by omega) k (by omega), Option.bind_some, if_neg h];exact ⟨trivial, trivial⟩
theorem isPlane_both (n : Int) (l : List S39) (hl : l.length ≤ 1048576) : ∃ r : Bool × Bool, (r = if goodB n l = true then ((pairsX l : Int) == 0, true) else (false, false)) ∧ ∀ k, l.length + 10000 ≤ k → impl_IsPlane.f k n l = some r := by
 by_cases h : goodB n l = true
 ·obtain ⟨h1, h2, h3, h4⟩ := good_spec n l h;refine ⟨((pairsX l : Int) == 0, true), (if_pos h).symm, fun k hk => ?_⟩;have hm : l.length * (l.length + 3) ≤ 40 * 43 := Nat.mul_le_mul (by omega) (by omega);unfold impl_IsPlane.f;simp only [isSet_eq n l (by omega) k (by omega), Option.bind_some, if_pos h, crossings_eq n l h4 (by omega) k (by omega), allP_len]
 ·refine ⟨(false, false), (if_neg h).symm, fun k hk => ?_⟩;unfold impl_IsPlane.f;simp only [isSet_eq n l (by omega) k (by omega), Option.bind_some, if_neg h]
theorem bsL_spec (q : Int → Int) (n : Nat) (mono : ∀ i j : Nat, i ≤ j → j < n → q j < 0 → q i < 0) : ∀ (fuel lo hi : Nat), hi ≤ n → lo ≤ hi → hi - lo ≤ fuel → (∀ t : Nat, t < lo → q t < 0) → (∀ t : Nat, hi ≤ t → t < n → ¬ q t < 0) →
  (∀ t : Nat, t < bsL q fuel lo hi → q t < 0) ∧ (∀ t : Nat, bsL q fuel lo hi ≤ t → t < n → ¬ q t < 0)
 | 0, lo, hi, h1, h2, h3, h4, h5 => by
  rw [bsL_ge q 0 lo hi (by omega)];exact ⟨h4, fun t ht hn => h5 t (by omega) hn⟩
 | fuel + 1, lo, hi, h1, h2, h3, h4, h5 => by
  by_cases h : lo < hi
  ·rw [bsL_lt q fuel lo hi h];by_cases hq : q (((lo + hi) / 2 : Nat) : Int) < 0
   ·rw [if_pos hq];exact bsL_spec q n mono fuel _ _ h1 (by omega) (by omega) (fun t ht => mono t ((lo + hi) / 2) (by omega) (by omega) hq) h5
   ·rw [if_neg hq];exact bsL_spec q n mono fuel _ _ (by omega) (by omega) (by omega) h4 (fun t ht hn hqt => hq (mono _ t ht hn hqt))
  ·rw [bsL_ge q _ lo hi h];exact ⟨h4, fun t ht hn => h5 t (by omega) hn⟩
theorem cmpC_neg (x : S39) (a b : Int) : cmpC x a b < 0 ↔ cLt x ⟨a, b⟩ = true := by
 rw [cLt_iff];unfold cmpC;simp only;repeat' split
 all_goals omega
theorem cmpC_zero (x : S39) (a b : Int) : cmpC x a b = 0 ↔ x = ⟨a, b⟩ := by
 constructor
 ·intro h;unfold cmpC at h;refine chord_ext ?_ ?_ <;> simp only <;> (repeat' split at h) <;> omega
 ·rintro rfl;unfold cmpC;simp
theorem insL_at (c : S39) : ∀ (l : List S39) (I : Nat), I ≤ l.length → (∀ t (h : t < l.length), t < I → cLt l[t] c = true) → (∀ t (h : t < l.length), I ≤ t → ¬ cLt l[t] c = true) → c ∉ l → insL c l = l.take I ++ [c] ++ l.drop I
 | [], I, _, _, _, _ => by simp [insL]
 | x :: l, 0, _, _, h2, h3 => by
  have h := h2 0 (by simp) (Nat.le_refl _);simp only [List.getElem_cons_zero] at h;unfold insL;rw [if_neg h, if_neg (fun e => h3 (by rw [← chord_ext e.1 e.2]; simp))];simp
 | x :: l, I + 1, h0, h1, h2, h3 => by
  have h := h1 0 (by simp) (by omega);simp only [List.getElem_cons_zero] at h;unfold insL;rw [if_pos h, insL_at c l I (by simpa using h0) (fun t ht hi => h1 (t + 1) (by simpa using ht) (by omega)) (fun t ht hi => h2 (t + 1) (by simpa using ht) (by omega)) (fun h => h3 (by simp [h]))];simp
theorem hasC_iff (l : List S39) (a b : Int) : hasC l a b = true ↔ (⟨a, b⟩ : S39) ∈ l := by
 unfold hasC;rw [List.any_eq_true];constructor
 ·rintro ⟨x, hx, h⟩;simp only [Bool.and_eq_true, decide_eq_true_eq] at h;rw [show (⟨a, b⟩ : S39) = x from chord_ext h.1 h.2];exact hx
 ·intro h;exact ⟨_, h, by simp⟩
theorem bsOf_says (l : List S39) (hs : Strict l) (a b : Int) : (hasC l a b = bsHit l a b) ∧ (hasC l a b = false → insL ⟨a, b⟩ l = l.take (bsOf l a b) ++ [⟨a, b⟩] ++ l.drop (bsOf l a b)) := by
 have hget : ∀ (t : Nat) (h : t < l.length), rd_T39 l (t : Int) = l[t] := fun t h => by rw [rdC_get l t (by omega) (by omega)]; rfl
 have hlt : ∀ (t u : Nat) (ht : t < u) (hu : u < l.length), cLt l[t] l[u] = true := fun t u ht hu => List.pairwise_iff_getElem.1 hs t u (by omega) hu ht
 have mono : ∀ i j : Nat, i ≤ j → j < l.length → cmpC (rd_T39 l (j : Int)) a b < 0 → cmpC (rd_T39 l (i : Int)) a b < 0 := by
  intro i j hij hj h;rcases Nat.eq_or_lt_of_le hij with e | e
  ·subst e; exact h
  ·rw [hget j hj, cmpC_neg, cLt_iff] at h;rw [hget i (by omega), cmpC_neg, cLt_iff];have := hlt i j e hj;rw [cLt_iff] at this;simp only at h ⊢;omega
 obtain ⟨p1, p2⟩ := bsL_spec (fun i => cmpC (rd_T39 l i) a b) l.length mono l.length 0 l.length (Nat.le_refl _) (Nat.zero_le _) (by omega) (fun t ht => by omega) (fun t h1 h2 => by omega);have hle : bsOf l a b ≤ l.length := bsL_le _ _ _ _ (Nat.zero_le _);have q1 : ∀ t : Nat, t < bsOf l a b → cmpC (rd_T39 l (t : Int)) a b < 0 := p1;have q2 : ∀ t : Nat, bsOf l a b ≤ t → t < l.length → ¬ cmpC (rd_T39 l (t : Int)) a b < 0 := p2;refine ⟨?_, fun hn => ?_⟩
 ·rw [Bool.eq_iff_iff, hasC_iff];unfold bsHit;simp only [Bool.and_eq_true, decide_eq_true_eq];constructor
  ·intro hm;obtain ⟨t, ht, e⟩ := List.getElem_of_mem hm
   have hz : ¬ t < bsOf l a b := by
    intro h;have := q1 t h;rw [hget t ht, e, (cmpC_zero _ a b).2 rfl] at this;omega
   have hI : bsOf l a b < l.length := by omega
   refine ⟨hI, ?_⟩;rcases Nat.eq_or_lt_of_le (Nat.le_of_not_lt hz) with h | h
   ·rw [h, hget t ht, e];exact (cmpC_zero _ a b).2 rfl
   ·have h1 := hlt _ t h ht;rw [e] at h1;exact absurd ((cmpC_neg _ a b).2 h1) (by rw [← hget _ hI]; exact q2 _ (Nat.le_refl _) hI)
  ·rintro ⟨hI, h⟩;rw [hget _ hI] at h;rw [← (cmpC_zero _ a b).1 h];exact List.getElem_mem hI
 ·refine insL_at ⟨a, b⟩ l (bsOf l a b) hle (fun t ht hi => ?_) (fun t ht hi => ?_) (fun hm => by rw [(hasC_iff l a b).2 hm] at hn; cases hn)
  ·rw [← cmpC_neg, ← hget t ht]; exact q1 t hi
  ·rw [← cmpC_neg, ← hget t ht]; exact q2 t hi ht
theorem srIs_some (n a b : Int) : ∃ r, spec_srIs.f n a b = some r := by
 unfold spec_srIs.f;rw [l1In_eq];simp only [Option.bind_some];split
 ·rw [l1In_eq]; exact ⟨_, rfl⟩
 ·exact ⟨_, rfl⟩
theorem addChord_both (n : Int) (l : List S39) (a b : Int) (hl : l.length ≤ 1048576) : ∃ r : List S39 × Bool, r.1.length ≤ 41 ∧ (r = if goodB n l = true ∧ isCh n a b ∧ l.length < 40 ∧ hasC l a b = false then (insL ⟨a, b⟩ l, true) else ([], false)) ∧ ∀ k, l.length + 1000 ≤ k → spec_AddChord.f k n l a b = some r ∧ impl_AddChord.f k n l a b = some r := by
 by_cases h : goodB n l = true
 ·obtain ⟨h1, h2, h3, h4⟩ := good_spec n l h;have c1 : l.length ≤ 1000000000 := by omega
  have c2 : l.length ≤ 1000000 := by omega
  obtain ⟨e1, e2⟩ := bsOf_says l h3 a b;by_cases hc : isCh n a b
  ·by_cases h40 : l.length = 40
   ·refine ⟨([], false), by simp, (if_neg (fun z => by have := z.2.2.1; omega)).symm, fun k hk => ?_⟩;unfold spec_AddChord.f impl_AddChord.f;simp only [cdGood_eq n l (by omega) k (by omega), isSet_eq n l (by omega) k (by omega), srIs_eq n a b h1, implIsChord_eq, Option.bind_some, if_pos c1, if_pos c2, if_pos h, decide_eq_true hc, if_true, if_pos h40];exact ⟨trivial, by simp⟩
   ·cases hh : hasC l a b with
    | true =>
     rw [hh] at e1;refine ⟨([], false), by simp, (if_neg (fun z => by cases z.2.2.2)).symm, fun k hk => ?_⟩;unfold spec_AddChord.f impl_AddChord.f;simp only [cdGood_eq n l (by omega) k (by omega), isSet_eq n l (by omega) k (by omega), srIs_eq n a b h1, implIsChord_eq, Option.bind_some, if_pos c1, if_pos c2, if_pos h, decide_eq_true hc, if_true, if_neg h40, hh, ← e1];exact ⟨trivial, trivial⟩
    | false =>
     rw [hh] at e1;have hp := fun k (hk : l.length < k) => srPut_eq ⟨a, b⟩ l k (by omega) hk
     refine ⟨(insL ⟨a, b⟩ l, true), by have := insL_len (⟨a, b⟩ : S39) l; simp only; omega, (if_pos ⟨h, hc, by omega, rfl⟩).symm, fun k hk => ?_⟩;have hp2 := hp k (by omega);simp only at hp2;unfold spec_AddChord.f impl_AddChord.f;simp only [cdGood_eq n l (by omega) k (by omega), isSet_eq n l (by omega) k (by omega), srIs_eq n a b h1, implIsChord_eq, Option.bind_some, if_pos c1, if_pos c2, if_pos h, decide_eq_true hc, if_true, if_neg h40, hh, ← e1, Bool.false_eq_true, if_false, hp2];exact ⟨trivial, by rw [e2 hh]⟩
  ·refine ⟨([], false), by simp, (if_neg (fun z => hc z.2.1)).symm, fun k hk => ?_⟩;unfold spec_AddChord.f impl_AddChord.f;simp only [cdGood_eq n l (by omega) k (by omega), isSet_eq n l (by omega) k (by omega), srIs_eq n a b h1, implIsChord_eq, Option.bind_some, if_pos c1, if_pos c2, if_pos h, decide_eq_false hc, if_true, Bool.false_eq_true, if_false];exact ⟨trivial, trivial⟩
 ·refine ⟨([], false), by simp, (if_neg (fun z => h z.1)).symm, fun k hk => ?_⟩;have c1 : l.length ≤ 1000000000 := by omega
  obtain ⟨r, hr⟩ := srIs_some n a b;unfold spec_AddChord.f impl_AddChord.f;simp only [cdGood_eq n l (by omega) k (by omega), isSet_eq n l (by omega) k (by omega), hr, implIsChord_eq, Option.bind_some, if_pos c1, if_neg h];exact ⟨trivial, by simp⟩
theorem dropChord_both (n : Int) (l : List S39) (t : Int) (hl : l.length ≤ 1048576) : ∃ r : List S39 × Bool, r.1.length ≤ 40 ∧ (r = if goodB n l = true ∧ 0 ≤ t ∧ t ≤ (l.length : Int) - 1 then (l.take t.toNat ++ l.drop (t.toNat + 1), true) else ([], false)) ∧ ∀ k, l.length + 1000 ≤ k → spec_DropChord.f k n l t = some r ∧ impl_DropChord.f k n l t = some r := by
 by_cases h : goodB n l = true
 ·obtain ⟨h1, h2, h3, h4⟩ := good_spec n l h;have hw : wrap64 ((l.length : Int) - 1) = (l.length : Int) - 1 := wrap64_id (by omega) (by omega);by_cases ht : 0 ≤ t ∧ t ≤ (l.length : Int) - 1
  ·obtain ⟨t, rfl⟩ : ∃ u : Nat, t = (u : Int) := ⟨t.toNat, by omega⟩;have hw2 : wrap64 ((t : Int) + 1) = ((t + 1 : Nat) : Int) := by rw [wrap64_id (by omega) (by omega)]; rfl
   refine ⟨(l.take t ++ l.drop (t + 1), true), by simp; omega, by rw [if_pos ⟨h, ht⟩, Int.toNat_natCast], fun k hk => ?_⟩;obtain ⟨k, rfl⟩ : ∃ m, k = m + 1 := ⟨k - 1, by omega⟩;have c1 : (0 : Int) ≤ (t : Int) := by omega
   have c2 : (t : Int) ≤ (l.length : Int) := by omega
   have c3 : (0 : Int) ≤ ((t + 1 : Nat) : Int) := by omega
   have c4 : ((t + 1 : Nat) : Int) ≤ (l.length : Int) := by omega
   have c5 : ([] : List S39).length + (l.take t).length < 8796093022208 := by simp; omega
   have c6 : (l.take t).length + (l.drop (t + 1)).length < 8796093022208 := by simp; omega
   have c7 : l.length < 8796093022208 := by omega
   have c8 : 0 ≤ (t : Int) ∧ (t : Int) < ((t + 1 : Nat) : Int) ∧ ((t + 1 : Nat) : Int) ≤ (l.length : Int) ∧ l.length ≤ 1000000 := by omega
   unfold spec_DropChord.f impl_DropChord.f;rw [cdGood_eq n l (by omega) (k + 1) (by omega), isSet_eq n l (by omega) (k + 1) (by omega)];simp only [Option.bind_some, if_pos h, hw, l1In_eq, within_eq, decide_eq_true ht, if_true, if_pos c1, if_pos c2, hw2, if_pos c3, if_pos c4, if_pos c5, Int.toNat_natCast, List.nil_append, if_pos c6, impl_DropChord.j0, Bool.not_true, Bool.false_eq_true, if_false, impl_Chord_70.f, impl_Chord_72.f, if_pos c7, if_pos c8];exact ⟨trivial, trivial⟩
  ·refine ⟨([], false), by simp, (if_neg (fun z => ht z.2)).symm, fun k hk => ?_⟩;obtain ⟨k, rfl⟩ : ∃ m, k = m + 1 := ⟨k - 1, by omega⟩;unfold spec_DropChord.f impl_DropChord.f;rw [cdGood_eq n l (by omega) (k + 1) (by omega), isSet_eq n l (by omega) (k + 1) (by omega)];simp only [Option.bind_some, if_pos h, hw, l1In_eq, within_eq, decide_eq_false ht, impl_DropChord.j0];exact ⟨by simp, by simp⟩
 ·refine ⟨([], false), by simp, (if_neg (fun z => h z.1)).symm, fun k hk => ?_⟩;obtain ⟨k, rfl⟩ : ∃ m, k = m + 1 := ⟨k - 1, by omega⟩;unfold spec_DropChord.f impl_DropChord.f;rw [cdGood_eq n l (by omega) (k + 1) (by omega), isSet_eq n l (by omega) (k + 1) (by omega)];simp only [Option.bind_some, if_neg h, impl_DropChord.j0];exact ⟨trivial, by simp⟩
def lenC (n : Int) (c : S39) : Int := mn (c.f1 - c.f0) (n - c.f1 + c.f0)
theorem cdLength_eq (n : Int) (c : S39) (hn : 3 ≤ n ∧ n ≤ 60) (hc : Proper n c) : spec_cdLength.f n c.f0 c.f1 = some (lenC n c) := by
 unfold Proper at hc;unfold spec_cdLength.f spec_l1Least.f lenC mn;rw [wrap64_id (x := c.f1 - c.f0) (by omega) (by omega), wrap64_id (x := n - c.f1) (by omega) (by omega), wrap64_id (by omega) (by omega)];by_cases h : c.f1 - c.f0 < n - c.f1 + c.f0
 ·simp [h]; try omega
 ·simp [h]; try omega
theorem chordLengths_both_loop (n : Int) (hn : 3 ≤ n ∧ n ≤ 60) (m : List S39) : ∀ (k : Nat) (pre : List S39) (acc : List Int), (∀ x ∈ m, Proper n x) → pre.length + m.length ≤ 1000 → acc.length = pre.length → m.length < k →
  spec_ChordLengths.l0 k n acc (pre ++ m) ((pre ++ m).length : Int) pre.length = some (acc ++ m.map (lenC n), true) ∧ impl_ChordLengths.l0 k n acc (pre ++ m) ((pre ++ m).length : Int) pre.length = some (acc ++ m.map (lenC n), true) := by
 induction m with
 | nil =>
  intro k pre acc _ hl ha hk;obtain ⟨k, rfl⟩ : ∃ t, k = t + 1 := ⟨k - 1, by omega⟩;simp only [spec_ChordLengths.l0, impl_ChordLengths.l0, List.append_nil, List.map_nil];refine ⟨?_, ?_⟩ <;> rw [if_neg (by omega)]
 | cons x m ih =>
  intro k pre acc hp hl ha hk;obtain ⟨k, rfl⟩ : ∃ t, k = t + 1 := ⟨k - 1, by omega⟩;simp only [List.length_cons] at hl hk;have hlen : ((pre ++ x :: m).length : Int) = pre.length + m.length + 1 := by simp; omega
  have hx := hp x (by simp);have hx' := hx;unfold Proper at hx';have IH := ih k (pre ++ [x]) (acc ++ [lenC n x]) (fun y hy => hp y (by simp [hy])) (by simp; omega) (by simp [ha]) (by omega);simp only [List.append_assoc, List.cons_append, List.nil_append] at IH;have hpl : (((pre ++ [x]).length : Nat) : Int) = (pre.length : Int) + 1 := by simp
  rw [hpl] at IH;have hi : (pre.length : Int) < ((pre ++ x :: m).length : Int) := by omega
  have hi0 : (0 : Int) ≤ (pre.length : Int) := by omega
  have ha' : acc.length < 17592186044416 := by omega
  constructor
  ·simp only [spec_ChordLengths.l0, if_pos hi, if_pos hi0, rdC_append, cdLength_eq n x hn hx, Option.bind_some, if_pos ha', wrap64_id (x := (pre.length : Int) + 1) (by omega) (by omega)];exact IH.1
  ·simp only [impl_ChordLengths.l0, if_pos hi, if_pos hi0, rdC_append, if_pos ha', wrap64_id (x := (pre.length : Int) + 1) (by omega) (by omega), wrap64_id (x := x.f1 - x.f0) (by omega) (by omega), wrap64_id (x := n - x.f1) (by omega) (by omega), wrap64_id (x := n - x.f1 + x.f0) (by omega) (by omega)];exact IH.2
theorem chordLengths_both (n : Int) (l : List S39) (hl : l.length ≤ 1048576) : ∃ r : List Int × Bool, r.1.length ≤ 40 ∧ (r = if goodB n l = true then (l.map (lenC n), true) else ([], false)) ∧ ∀ k, l.length + 100 ≤ k → spec_ChordLengths.f k n l = some r ∧ impl_ChordLengths.f k n l = some r := by
 by_cases h : goodB n l = true
 ·obtain ⟨h1, h2, h3, h4⟩ := good_spec n l h;refine ⟨(l.map (lenC n), true), by simpa using h2, (if_pos h).symm, fun k hk => ?_⟩;have := chordLengths_both_loop n h1 l k [] [] h4 (by simp; omega) rfl (by omega);simp only [List.nil_append, List.length_nil, Int.natCast_zero] at this;unfold spec_ChordLengths.f impl_ChordLengths.f;simp only [cdGood_eq n l (by omega) k (by omega), isSet_eq n l (by omega) k (by omega), Option.bind_some, if_pos h];exact this
 ·refine ⟨([], false), by simp, (if_neg h).symm, fun k hk => ?_⟩;unfold spec_ChordLengths.f impl_ChordLengths.f;simp only [cdGood_eq n l (by omega) k (by omega), isSet_eq n l (by omega) k (by omega), Option.bind_some, if_neg h];exact ⟨trivial, trivial⟩
theorem implText_loop (l : List S39) (hl : l.length ≤ 1000) (hP : ∀ x ∈ l, Proper 60 x) (m : List S39) : ∀ (k : Nat) (pre : List S39), pre ++ m = l → m.length + 20 < k →
  impl_ChordsText.l0 k (pre.map ct) l (l.length : Int) (pre.length : Int) = some (jb l, true) := by
 induction m with
 | nil =>
  intro k pre e hk;obtain ⟨k, rfl⟩ : ∃ t, k = t + 1 := ⟨k - 1, by omega⟩;rw [List.append_nil] at e;subst e;simp only [impl_ChordsText.l0];rw [if_neg (by omega)];unfold strings_Join.f;have hj := joinB_len pre
  rw [if_pos ⟨by simpa using hl, by
   show (joinB pre).length ≤ 1000000
   omega⟩]
  rfl
 | cons x m ih =>
  intro k pre e hk;obtain ⟨k, rfl⟩ : ∃ t, k = t + 1 := ⟨k - 1, by omega⟩;simp only [List.length_cons] at hk;have hlen : (l.length : Int) = pre.length + m.length + 1 := by rw [← e]; simp; omega
  have hx : rd_T39 l (pre.length : Int) = x := by rw [← e]; exact rdC_append pre m x
  have hp := hP x (by rw [← e]; simp);unfold Proper at hp;have n1 := itoa_eq x.f0 (by omega);have n2 := itoa_eq x.f1 (by omega);have s1 := nt_size x.f0;have s2 := nt_size x.f1;have IH := ih k (pre ++ [x]) (by simpa using e) (by omega);rw [show (((pre ++ [x]).length : Nat) : Int) = (pre.length : Int) + 1 by simp, List.map_append, List.map_singleton] at IH;have g1 : (pre.length : Int) < (l.length : Int) := by omega
  have g2 : (0 : Int) ≤ (pre.length : Int) := by omega
  have g3 : (nt x.f0).size + 1 ≤ 9223372036854775807 := by omega
  have g4 : (nt x.f0 ++ (⟨#[45]⟩ : ByteArray)).size + (nt x.f1).size ≤ 9223372036854775807 := by rw [ByteArray.size_append, lit1]; omega
  have g5 : (pre.map ct).length < 8796093022208 := by simp; omega
  have hw := mk_ (show wrap64 ((pre.length : Int) + 1) = (pre.length : Int) + 1 from wrap64_id (by omega) (by omega));have hct : (nt x.f0 ++ (⟨#[45]⟩ : ByteArray)) ++ nt x.f1 = ct x := rfl;simp only [impl_ChordsText.l0];rw [if_pos g1, if_pos g2, if_pos g1, hx, n1];simp only [Option.bind_some];rw [if_pos g3, n2];simp only [Option.bind_some];rw [if_pos g4, hct, if_pos g5, hw.out];exact IH
theorem chordsText_both (l : List S39) (hl : l.length ≤ 1048576) : ∃ r : ByteArray × Bool, (r = if goodB 60 l = true then (jb l, true) else (⟨#[]⟩, false)) ∧ ∀ k, l.length + 1000 ≤ k → spec_ChordsText.f k l = some r ∧ impl_ChordsText.f k l = some r := by
 by_cases h : goodB 60 l = true
 ·obtain ⟨h1, h2, h3, h4⟩ := good_spec 60 l h;refine ⟨(jb l, true), (if_pos h).symm, fun k hk => ?_⟩;have e1 : spec_cdText.l0 k ⟨#[]⟩ l (l.length : Int) 0 = some (jb l) := cdText_loop l (by omega) h4 l k [] rfl (by omega);have e2 : impl_ChordsText.l0 k [] l (l.length : Int) 0 = some (jb l, true) := implText_loop l (by omega) h4 l k [] rfl (by omega);unfold spec_ChordsText.f impl_ChordsText.f spec_cdText.f;simp only [cdGood_eq 60 l (by omega) k (by omega), areChords_eq 60 l (by omega) k (by omega), Option.bind_some, if_pos h, e1, e2];exact ⟨trivial, trivial⟩
 ·refine ⟨(⟨#[]⟩, false), (if_neg h).symm, fun k hk => ?_⟩;unfold spec_ChordsText.f impl_ChordsText.f;simp only [cdGood_eq 60 l (by omega) k (by omega), areChords_eq 60 l (by omega) k (by omega), Option.bind_some, if_neg h];exact ⟨trivial, trivial⟩
theorem dd_clean45 : ∀ n : Nat, n < 100 → (dd n).count 45 = 0 := by decide +kernel
theorem splitL_two (c : UInt8) (l x y : List UInt8) (h : splitL c l = [x, y]) : l = x ++ c :: y ∧ y.count c = 0 := by
 rcases indexByte_cases c l with ⟨c1, _⟩ | ⟨a, b, c1, c2, _⟩
 ·rw [splitL_none c l c1] at h;simp at h
 ·rw [c1, splitL_at c a b c2] at h;injection h with e1 e2
  have hc := splitL_len c b;rw [e2] at hc;have h0 : b.count c = 0 := by simpa using hc.symm
  have := splitL_none c b h0;rw [e2] at this;injection this with e3
  subst e1; subst e3;exact ⟨c1, h0⟩
theorem joinTail_cons (c : UInt8) (m : List UInt8) (ms : List (List UInt8)) : Lib.joinTail [c] (m :: ms) = c :: Lib.join (m :: ms) [c] := by
 rw [Lib.join_cons];simp [Lib.joinTail]
theorem join_split (c : UInt8) : ∀ (n : Nat) (l : List UInt8), l.length ≤ n → Lib.join (splitL c l) [c] = l := by
 intro n
 induction n with
 | zero =>
  intro l hl;obtain rfl : l = [] := List.eq_nil_of_length_eq_zero (by omega);rfl
 | succ n ih =>
  intro l hl;rcases indexByte_cases c l with ⟨c1, _⟩ | ⟨a, b, c1, c2, _⟩
  ·rw [splitL_none c l c1, Lib.join_one]
  ·have hb : b.length ≤ n := by rw [c1] at hl; simp at hl; omega
   have ihb := ih b hb;rw [c1, splitL_at c a b c2, Lib.join_cons]
   cases hs : splitL c b with
   | nil => exact absurd hs (splitL_ne c b)
   | cons m ms =>
    rw [hs] at ihb;rw [joinTail_cons, ihb]
theorem splitL_small (c : UInt8) : ∀ (n : Nat) (l : List UInt8), l.length ≤ n → ∀ p ∈ splitL c l, p.length ≤ l.length := by
 intro n
 induction n with
 | zero =>
  intro l hl p hp;obtain rfl : l = [] := List.eq_nil_of_length_eq_zero (by omega);simp [splitL] at hp;subst hp;simp
 | succ n ih =>
  intro l hl p hp;rcases indexByte_cases c l with ⟨c1, _⟩ | ⟨a, b, c1, c2, _⟩
  ·rw [splitL_none c l c1] at hp;simp at hp;subst hp;exact Nat.le_refl _
  ·have hlen : l.length = a.length + (b.length + 1) := by rw [c1]; simp
   rw [c1, splitL_at c a b c2] at hp;rcases List.mem_cons.1 hp with rfl | hp
   ·omega
   ·have := ih b (by omega) p hp;omega
def ich (l : List UInt8) : S39 := match strings_Cut.f (mkB l) ⟨#[45]⟩ with
 | some t => ⟨numV t.1.data.toList, numV t.2.1.data.toList⟩
 | none => ⟨-1, -1⟩
theorem ich_none (l : List UInt8) (h : l.count 45 = 0) : ich l = ⟨numV l, -1⟩ := by
 unfold ich;rw [cut_no (mkB l) 45 (by rw [mkB_data]; exact h)];simp only [mkB_data];rfl
theorem ich_at (a b : List UInt8) (h : a.count 45 = 0) (hs : (a ++ 45 :: b).length ≤ 2000000) : ich (a ++ 45 :: b) = ⟨numV a, numV b⟩ := by
 unfold ich;rw [cut_yes (mkB (a ++ 45 :: b)) 45 a b (by rw [mkB_data]) h (by rw [mkB_size]; omega)];simp only [mkB_data]
theorem ich_runs (l : List UInt8) (hs : l.length ≤ 2000000) : ∃ t, strings_Cut.f (mkB l) ⟨#[45]⟩ = some t ∧ impl_number.f t.1 = some (ich l).f0 ∧ impl_number.f t.2.1 = some (ich l).f1 := by
 have hn : ∀ t : ByteArray, t.size ≤ 1000000000 → impl_number.f t = some (numV t.data.toList) := fun t ht => by unfold impl_number.f; rw [if_pos (by omega)]
 rcases indexByte_cases 45 l with ⟨c1, _⟩ | ⟨a, b, c1, c2, _⟩
 ·refine ⟨_, cut_no (mkB l) 45 (by rw [mkB_data]; exact c1), ?_, ?_⟩
  ·rw [ich_none l c1, hn _ (by simp only [mkB_size]; omega), mkB_data]
  ·rw [ich_none l c1];rfl
 ·have hlen : l.length = a.length + (b.length + 1) := by rw [c1]; simp
  refine ⟨_, cut_yes (mkB l) 45 a b (by rw [mkB_data]; exact c1) c2 (by rw [mkB_size]; omega), ?_, ?_⟩
  ·rw [hn _ (by simp only [mkB_size]; omega), mkB_data, c1, ich_at a b c2 (by rw [← c1]; exact hs)]
  ·rw [hn _ (by simp only [mkB_size]; omega), mkB_data, c1, ich_at a b c2 (by rw [← c1]; exact hs)]
def sch (l : List UInt8) : Option S39 := match splitL 45 l with
 | [x, y] => some ⟨readV x, readV y⟩
 | _ => none
def schL : List (List UInt8) → Option (List S39)
 | [] => some []
 | p :: ps => (sch p).bind fun c => (schL ps).bind fun r => some (c :: r)
theorem key_impl (l : List UInt8) (hs : l.length ≤ 2000000) (h : Proper 60 (ich l)) : sch l = some (ich l) ∧ l = (ct (ich l)).data.toList := by
 rcases indexByte_cases 45 l with ⟨c1, _⟩ | ⟨a, b, c1, c2, _⟩
 ·rw [ich_none l c1] at h;unfold Proper at h;simp only at h;omega
 ·have e := ich_at a b c2 (by rw [← c1]; exact hs);rw [← c1] at e;rw [e] at h;unfold Proper at h;simp only at h;have ea := numV_dd a (numV a) (by omega) rfl;have eb := numV_dd b (numV b) (by omega) rfl;have ra := (read_num a (numV a) (by omega)).2 rfl;have rb := (read_num b (numV b) (by omega)).2 rfl;have cb : b.count 45 = 0 := by rw [eb]; exact dd_clean45 _ (by omega)
  refine ⟨?_, ?_⟩
  ·unfold sch;rw [c1, splitL_at 45 a b c2, splitL_none 45 b cb];simp only;rw [ra, rb, ← c1, e]
  ·rw [e];unfold ct nt;rw [ByteArray.data_append, ByteArray.data_append, Array.toList_append, Array.toList_append];simp only;rw [← ea, ← eb, c1];simp
theorem key_spec (l : List UInt8) (hs : l.length ≤ 2000000) (c : S39) (h : sch l = some c) (hp : Proper 60 c) : ich l = c := by
 unfold sch at h;split at h
 ·rename_i x y hsp;injection h with h
  subst h;unfold Proper at hp;simp only at hp;obtain ⟨e, cy⟩ := splitL_two 45 l x y hsp;have nx := (read_num x (readV x) (by omega)).1 rfl;have ny := (read_num y (readV y) (by omega)).1 rfl;have ex := readV_dd x (readV x) (by omega) rfl;have cx : x.count 45 = 0 := by rw [ex]; exact dd_clean45 _ (by omega)
  rw [e, ich_at x y cx (by rw [← e]; exact hs), nx, ny]
 ·cases h
theorem all_impl : ∀ (L : List (List UInt8)), (∀ p ∈ L, p.length ≤ 2000000) → (∀ c ∈ L.map ich, Proper 60 c) → schL L = some (L.map ich) ∧ (L.map ich).map (fun c => (ct c).data.toList) = L
 | [], _, _ => ⟨rfl, rfl⟩
 | p :: L, hs, hp => by
  obtain ⟨i1, i2⟩ := all_impl L (fun q hq => hs q (List.mem_cons_of_mem _ hq)) (fun c hc => hp c (List.mem_cons_of_mem _ hc));obtain ⟨k1, k2⟩ := key_impl p (hs p List.mem_cons_self) (hp _ List.mem_cons_self);refine ⟨?_, ?_⟩
  ·simp only [schL, k1, i1, Option.bind_some, List.map_cons]
  ·rw [List.map_cons, List.map_cons, i2, ← k2]
theorem all_spec : ∀ (L : List (List UInt8)) (out : List S39), (∀ p ∈ L, p.length ≤ 2000000) → schL L = some out → (∀ c ∈ out, Proper 60 c) → out = L.map ich
 | [], out, _, h, _ => by
  injection h with h
  exact h.symm
 | p :: L, out, hs, h, hp => by
  simp only [schL] at h;obtain ⟨c, hc, h⟩ := Option.bind_eq_some_iff.mp h;obtain ⟨r, hr, h⟩ := Option.bind_eq_some_iff.mp h;injection h with h
  subst h;rw [List.map_cons, key_spec p (hs p List.mem_cons_self) c hc (hp c List.mem_cons_self), ← all_spec L r (fun q hq => hs q (List.mem_cons_of_mem _ hq)) hr (fun d hd => hp d (List.mem_cons_of_mem _ hd))]
theorem schL_len : ∀ (L : List (List UInt8)) (out : List S39), schL L = some out → out.length = L.length
 | [], out, h => by
  injection h with h
  subst h;rfl
 | p :: L, out, h => by
  simp only [schL] at h;obtain ⟨c, hc, h⟩ := Option.bind_eq_some_iff.mp h;obtain ⟨r, hr, h⟩ := Option.bind_eq_some_iff.mp h;injection h with h
  subst h;rw [List.length_cons, List.length_cons, schL_len L r hr]
theorem rd_map (pre m : List (List UInt8)) (p : List UInt8) (i : Int) (hi : i = pre.length) : rdOf ByteArray.empty ((pre ++ p :: m).map mkB) i = mkB p := by
 subst hi;simp [rdOf]
theorem impl_loop (L : List (List UInt8)) (hL : L.length ≤ 2000000) (hs : ∀ p ∈ L, p.length ≤ 2000000) (m : List (List UInt8)) : ∀ (k : Nat) (pre : List (List UInt8)), pre ++ m = L → m.length + L.length + 20 < k →
  impl_ParseChords.l0 k (pre.map ich) (L.map mkB) ((L.map mkB).length : Int) (pre.length : Int) = some (if goodB 60 (L.map ich) = true then (L.map ich, true) else ([], false)) := by
 induction m with
 | nil =>
  intro k pre e hk;obtain ⟨k, rfl⟩ : ∃ t, k = t + 1 := ⟨k - 1, by omega⟩;rw [List.append_nil] at e;subst e;simp only [List.length_nil] at hk;unfold impl_ParseChords.l0;rw [if_neg (by simp), areChords_eq 60 _ (by simp; omega) k (by simp; omega)];simp only [Option.bind_some];by_cases h : goodB 60 (pre.map ich) = true
  ·rw [if_pos h, if_pos h]
  ·rw [if_neg h, if_neg h]
 | cons p m ih =>
  intro k pre e hk;obtain ⟨k, rfl⟩ : ∃ t, k = t + 1 := ⟨k - 1, by omega⟩;simp only [List.length_cons] at hk;have hlen : L.length = pre.length + (m.length + 1) := by rw [← e]; simp
  have IH := ih k (pre ++ [p]) (by simpa using e) (by omega);have hx : rdOf ByteArray.empty (L.map mkB) (pre.length : Int) = mkB p := by rw [← e]; exact rd_map pre m p _ rfl
  obtain ⟨t, t1, t2, t3⟩ := ich_runs p (hs p (by rw [← e]; simp));have hw := wrapS pre.length (by omega);unfold impl_ParseChords.l0;rw [if_pos (by simp; omega), if_pos (by omega), if_pos (by simp; omega), hx, t1];simp only [Option.bind_some];rw [t2];simp only [Option.bind_some];rw [t3];simp only [Option.bind_some];rw [if_pos (by simp; omega), hw];rw [List.map_append, List.length_append] at IH;exact IH
theorem spec_loop (s : ByteArray) (r : List S39 × Bool) (L : List (List UInt8)) (hL : L.length ≤ 1000) (hs : ∀ p ∈ L, p.length ≤ 1000) (m : List (List UInt8)) : ∀ (k : Nat) (pre : List (List UInt8)) (done : List S39), pre ++ m = L → done.length = pre.length → m.length + 2100 < k →
  (∀ out, schL m = some out → ∀ j, 2000 ≤ j → spec_ParseChords.j1 j s (done ++ out) = some r) → (schL m = none → r = ([], false)) →
  spec_ParseChords.l0 k s done (L.map mkB) ((L.map mkB).length : Int) (pre.length : Int) = some r := by
 induction m with
 | nil =>
  intro k pre done e hd hk h1 _;obtain ⟨k, rfl⟩ : ∃ t, k = t + 1 := ⟨k - 1, by omega⟩;rw [List.append_nil] at e;subst e;simp only [List.length_nil] at hk;unfold spec_ParseChords.l0;rw [if_neg (by simp)];have := h1 [] rfl k (by omega);rwa [List.append_nil] at this
 | cons p m ih =>
  intro k pre done e hd hk h1 h2;obtain ⟨k, rfl⟩ : ∃ t, k = t + 1 := ⟨k - 1, by omega⟩;simp only [List.length_cons] at hk;have hlen : L.length = pre.length + (m.length + 1) := by rw [← e]; simp
  have hx : rdOf ByteArray.empty (L.map mkB) (pre.length : Int) = mkB p := by rw [← e]; exact rd_map pre m p _ rfl
  have hp := hs p (by rw [← e]; simp);have hw := wrapS pre.length (by omega);unfold spec_ParseChords.l0;rw [if_pos (by simp; omega), if_pos (by omega), if_pos (by simp; omega), hx, show (45 : Int) = ((45 : UInt8).toNat : Int) from rfl, l1Split_eq (mkB p) 45 (by rw [mkB_size]; omega) k (by rw [mkB_size]; omega), mkB_data];simp only [Option.bind_some]
  cases hsp : splitL 45 p with
  | nil => exact absurd hsp (splitL_ne 45 p)
  | cons x xs =>
   have bad : (∀ y, xs ≠ [y]) → r = ([], false) := fun hb => h2 (by
    have : sch p = none := by
     unfold sch
     rw [hsp]
     cases xs with
     | nil => rfl
     | cons y ys =>
      cases ys with
      | nil => exact absurd rfl (hb y)
      | cons _ _ => rfl
    simp only [schL, this, Option.bind_none])
   cases xs with
   | nil =>
    rw [if_neg (by simp), bad (fun y h => by cases h)]
   | cons y ys =>
    cases ys with
    | cons u us => rw [if_neg (by simp; omega), bad (fun y h => by simp at h)]
    | nil =>
     obtain ⟨ep, _⟩ := splitL_two 45 p x y hsp;have hxy : p.length = x.length + (y.length + 1) := by rw [ep]; simp
     rw [if_pos (by simp), if_pos (by simp)];have g0 : rdOf ByteArray.empty ([x, y].map mkB) 0 = mkB x := rfl;have g1 : rdOf ByteArray.empty ([x, y].map mkB) 1 = mkB y := rfl;rw [g0, g1, l1Read_eq (mkB x) (by rw [mkB_size]; omega) k (by omega), l1Read_eq (mkB y) (by rw [mkB_size]; omega) k (by omega), mkB_data, mkB_data];simp only [Option.bind_some];have hc : sch p = some ⟨readV x, readV y⟩ := by unfold sch; rw [hsp]
     have IH := ih k (pre ++ [p]) (done ++ [(⟨readV x, readV y⟩ : S39)]) (by simpa using e) (by simp; omega) (by omega)
      (fun out ho j hj => by
       have := h1 (⟨readV x, readV y⟩ :: out) (by simp only [schL, hc, ho, Option.bind_some]) j hj
       simpa using this)
      (fun hn => h2 (by simp only [schL, hc, hn, Option.bind_some, Option.bind_none]))
     rw [if_pos (by simp), if_pos (by omega), hw];rw [List.length_append] at IH;exact IH
theorem cdText_eq (l : List S39) (h : goodB 60 l = true) (k : Nat) (hk : 1000 ≤ k) : spec_cdText.f k l = some (jb l) := by
 obtain ⟨h1, h2, h3, h4⟩ := good_spec 60 l h;unfold spec_cdText.f;exact cdText_loop l (by omega) h4 l k [] rfl (by omega)
theorem jb_none (s : ByteArray) (h : s.toList = ([] : List UInt8)) : jb [] = s := by
 apply ByteArray.ext;apply Array.toList_inj.1;rw [Lib.toList_data] at h;rw [h];rfl
theorem ct_data (c : S39) : (ct c).data.toList = dd c.f0.toNat ++ 45 :: dd c.f1.toNat := by
 unfold ct nt;rw [ByteArray.data_append, ByteArray.data_append, Array.toList_append, Array.toList_append];simp
theorem jb_empty (l : List S39) (h : (jb l).size = 0) : l = [] := by
 cases l with
 | nil => rfl
 | cons x l =>
  have h2 : (joinB (x :: l)).length = 0 := by
   have : (jb (x :: l)).size = (joinB (x :: l)).length := by
    show (joinB (x :: l)).toArray.size = _;rw [List.size_toArray]
   omega
  unfold joinB at h2;rw [List.map_cons, List.map_cons, Lib.join_cons, List.length_append, ct_data, List.length_append, List.length_cons] at h2;omega
theorem dd_clean44 : ∀ n : Nat, n < 100 → (dd n).count 44 = 0 := by decide +kernel
theorem ct_clean (c : S39) (h : Proper 60 c) : ((ct c).data.toList).count 44 = 0 := by
 unfold Proper at h;rw [ct_data, List.count_append, List.count_cons_of_ne (by decide), dd_clean44 _ (by omega), dd_clean44 _ (by omega)]
theorem ich_ct (c : S39) (h : Proper 60 c) : ich ((ct c).data.toList) = c := by
 unfold Proper at h;have hs := ct_size c;have hl : ((ct c).data.toList).length = (ct c).size := by simp
 rw [ct_data] at hl ⊢;rw [ich_at _ _ (dd_clean45 _ (by omega)) (by omega), dd_numV _ (by omega), dd_numV _ (by omega)];cases c;simp only at h ⊢;rw [Int.toNat_of_nonneg (by omega), Int.toNat_of_nonneg (by omega)]
theorem split_join (x : S39) : ∀ (l : List S39), (∀ c ∈ x :: l, Proper 60 c) → splitL 44 ((ct x).data.toList ++ Lib.joinTail [44] ((l.map ct).map (·.data.toList))) = (ct x).data.toList :: (l.map fun c => (ct c).data.toList) := by
 intro l
 induction l generalizing x with
 | nil =>
  intro h;have e : Lib.joinTail [44] ((([] : List S39).map ct).map (·.data.toList)) = [] := rfl;rw [e, List.append_nil, splitL_none 44 _ (ct_clean x (h x (by simp)))];rfl
 | cons y l ih =>
  intro h;have e : Lib.joinTail [44] (((y :: l).map ct).map (·.data.toList)) = 44 :: ((ct y).data.toList ++ Lib.joinTail [44] ((l.map ct).map (·.data.toList))) := by simp [Lib.joinTail]
  rw [e, splitL_at 44 _ _ (ct_clean x (h x (by simp))), ih y (fun c hc => h c (List.mem_cons_of_mem _ hc))];rfl
theorem parse_parts (l : List S39) (h : ∀ c ∈ l, Proper 60 c) (hp : 0 < (jb l).size) : (splitL 44 (jb l).data.toList).map ich = l := by
 cases l with
 | nil => exact absurd hp (by show ¬ 0 < (joinB []).toArray.size; decide)
 | cons x l =>
  have e : (jb (x :: l)).data.toList = (ct x).data.toList ++ Lib.joinTail [44] ((l.map ct).map (·.data.toList)) := by
   show joinB (x :: l) = _;unfold joinB;rw [List.map_cons, List.map_cons, Lib.join_cons]
  rw [e, split_join x l h, List.map_cons, List.map_map, ich_ct x (h x (by simp))];refine congrArg (x :: ·) ?_;conv => rhs; rw [← List.map_id l]
  exact List.map_congr_left (fun c hc => ich_ct c (h c (List.mem_cons_of_mem _ hc)))
theorem parseChords_both (s : ByteArray) (hs : s.size ≤ 1048576) : ∃ r : List S39 × Bool, r.1.length ≤ 40 ∧ (r.2 = true → goodB 60 r.1 = true ∧ jb r.1 = s) ∧ (∀ l, goodB 60 l = true → jb l = s → r = (l, true)) ∧ ∀ k, 5000000 ≤ k → spec_ParseChords.f k s = some r ∧ impl_ParseChords.f k s = some r := by
 have hl : s.data.toList.length = s.size := by simp
 by_cases h0 : s.toList = ([] : List UInt8)
 ·have hz : s.size = 0 := by rw [← hl, ← Lib.toList_data, h0]; rfl
  refine ⟨([], true), by simp, fun _ => ⟨rfl, jb_none s h0⟩, fun l _ hj => by rw [jb_empty l (by rw [hj]; exact hz)], fun k hk => ⟨?_, ?_⟩⟩
  ·obtain ⟨k, rfl⟩ : ∃ t, k = t + 1 := ⟨k - 1, by omega⟩;unfold spec_ParseChords.f;rw [if_neg (by omega), if_neg (by omega)];simp only [spec_ParseChords.j1];have hg : goodB 60 [] = true := rfl;rw [cdGood_eq 60 [] (by simp) k (by simp; omega)];simp only [Option.bind_some];rw [if_pos hg, cdText_eq [] hg k (by omega)];simp only [Option.bind_some];rw [if_pos (by rw [h0, Lib.toList_data]; rfl)]
  ·unfold impl_ParseChords.f;rw [if_pos h0]
 ·have hpos : 0 < s.size := by
   rcases Nat.eq_zero_or_pos s.size with h | h
   ·exact absurd (by rw [Lib.toList_data]; exact List.eq_nil_of_length_eq_zero (by rw [hl]; exact h)) h0
   ·exact h
  obtain ⟨L, hL⟩ : ∃ L, splitL 44 s.data.toList = L := ⟨_, rfl⟩
  have hLl : L.length ≤ s.size + 1 := by
   rw [← hL, splitL_len, ← hl];have := List.count_le_length (a := (44 : UInt8)) (l := s.data.toList);omega
  have hLs : ∀ p ∈ L, p.length ≤ s.size := fun p hp => by
   rw [← hl]; rw [← hL] at hp; exact splitL_small 44 _ _ (Nat.le_refl _) p hp
  have hI : ∀ k, 5000000 ≤ k → impl_ParseChords.f k s = some (if goodB 60 (L.map ich) = true then (L.map ich, true) else ([], false)) := fun k hk => by
   unfold impl_ParseChords.f;rw [if_neg h0, split_eq s 44 (by omega) k (by omega), hL];simp only [Option.bind_some];exact impl_loop L (by omega) (fun p hp => by have := hLs p hp; omega) L k [] rfl (by omega)
  have hS : ∀ r : List S39 × Bool, (s.size ≤ 240 → (∀ out, schL L = some out → ∀ j, 2000 ≤ j → spec_ParseChords.j1 j s out = some r) ∧ (schL L = none → r = ([], false))) → (¬ s.size ≤ 240 → r = ([], false)) → ∀ k, 5000000 ≤ k → spec_ParseChords.f k s = some r := fun r h1 h2 k hk => by
   unfold spec_ParseChords.f;by_cases hz : s.size ≤ 240
   ·obtain ⟨h1, h3⟩ := h1 hz;rw [if_neg (by omega), if_pos (by omega), show (44 : Int) = ((44 : UInt8).toNat : Int) from rfl, l1Split_eq s 44 (by omega) k (by omega), hL];simp only [Option.bind_some];exact spec_loop s r L (by omega) (fun p hp => by have := hLs p hp; omega) L k [] [] rfl rfl (by omega) (fun out ho j hj => by rw [List.nil_append]; exact h1 out ho j hj) h3
   ·rw [if_pos (by omega), h2 hz]
  by_cases hg : goodB 60 (L.map ich) = true
  ·obtain ⟨g1, g2, g3, g4⟩ := good_spec 60 _ hg;obtain ⟨a1, a2⟩ := all_impl L (fun p hp => by have := hLs p hp; omega) g4
   have hj : jb (L.map ich) = s := by
    unfold jb joinB;rw [List.map_map, show ((fun x : ByteArray => x.data.toList) ∘ ct) = (fun c => (ct c).data.toList) from rfl, a2, ← hL, join_split 44 _ _ (Nat.le_refl _)]
   have hsz : s.size ≤ 240 := by
    have := jb_size (L.map ich);rw [hj] at this;omega
   refine ⟨(L.map ich, true), g2, fun _ => ⟨hg, hj⟩, fun l hl2 hj2 => by rw [← parse_parts l (good_spec 60 l hl2).2.2.2 (by rw [hj2]; exact hpos), hj2, hL], fun k hk => ⟨hS _ (fun _ => ⟨fun out ho j hj2 => ?_, fun hn => ?_⟩) (fun h => absurd hsz h) k hk, ?_⟩⟩
   ·rw [a1] at ho;injection ho with ho
    subst ho;obtain ⟨j, rfl⟩ : ∃ t, j = t + 1 := ⟨j - 1, by omega⟩;simp only [spec_ParseChords.j1];rw [cdGood_eq 60 (L.map ich) (by omega) j (by omega)];simp only [Option.bind_some];rw [if_pos hg, cdText_eq _ hg j (by omega), hj];simp only [Option.bind_some, if_true]
   ·rw [a1] at hn;cases hn
   ·rw [hI k hk, if_pos hg]
  ·refine ⟨([], false), by simp, (fun z => by cases z), fun l hl2 hj2 => absurd (by rw [← hL, ← hj2, parse_parts l (good_spec 60 l hl2).2.2.2 (by rw [hj2]; exact hpos)]; exact hl2) hg, fun k hk => ⟨hS _ (fun hz => ⟨fun out ho j hj2 => ?_, fun _ => rfl⟩) (fun _ => rfl) k hk, ?_⟩⟩
   ·obtain ⟨j, rfl⟩ : ∃ t, j = t + 1 := ⟨j - 1, by omega⟩;have hlo := schL_len L out ho
    have hng : ¬ goodB 60 out = true := fun h => by
     obtain ⟨_, _, _, g4⟩ := good_spec 60 _ h;have := all_spec L out (fun p hp => by have := hLs p hp; omega) ho g4;rw [this] at h;exact hg h
    simp only [spec_ParseChords.j1];rw [cdGood_eq 60 out (by omega) j (by omega)];simp only [Option.bind_some];rw [if_neg hng]
   ·rw [hI k hk, if_neg hg]
theorem free_all (n : Nat) : ∀ (m : Nat) (j : Int), freeF (List.replicate n false) j m = nwList (fun _ => true) j m
 | 0, j => rfl
 | m + 1, j => by
  have hr : rdOf false (List.replicate n false) j = false := by
   unfold rdOf;rw [List.getD_eq_getElem?_getD, List.getElem?_replicate];split <;> rfl
  simp only [freeF, nwList, hr, Bool.false_eq_true, if_false, if_true, free_all n m]
theorem nw_len (m : Nat) : ∀ j : Int, (nwList (fun _ => true) j m).length = m := by
 induction m with
 | zero => intro j; rfl
 | succ m ih => intro j; simp [nwList, ih]
def cpV (n crs : Int) : Int := ways crs 13 (nwList (fun _ => true) 0 n.toNat) []
theorem countPairings_both (n crs : Int) : ∃ r : Int × Bool, (r = if (4 ≤ n ∧ n ≤ 12) ∧ n % 2 = 0 ∧ 0 ≤ crs ∧ crs ≤ 100 then (cpV n crs, true) else (0, false)) ∧ ∀ K, 10000 ≤ K → spec_CountPairings.f K n crs = some r ∧ impl_CountPairings.f K n crs = some r := by
 refine ⟨_, rfl, fun K hK => ?_⟩;unfold spec_CountPairings.f impl_CountPairings.f impl_isEven.f;simp only [l1In_eq, within_eq, isCircle_eq, Option.bind_some];by_cases hn : 4 ≤ n ∧ n ≤ 12
 ·have hc : 3 ≤ n ∧ n ≤ 60 := by omega
  have hm : Int.tmod n 2 = n % 2 := Int.tmod_eq_emod_of_nonneg (by omega);simp only [decide_eq_true hn, decide_eq_true hc, if_true, hm];by_cases he : n % 2 = 1
  ·have he0 : ¬ n % 2 = 0 := by omega
   rw [if_neg (show ¬ ((4 ≤ n ∧ n ≤ 12) ∧ n % 2 = 0 ∧ 0 ≤ crs ∧ crs ≤ 100) from fun z => he0 z.2.1)];simp only [if_pos he, if_neg he0];simp
  ·have he0 : n % 2 = 0 := by omega
   simp only [if_neg he, if_pos he0];have h12 : n ≤ 12 := hn.2;simp only [Option.bind_some, decide_eq_true h12, if_true];by_cases hcr : 0 ≤ crs ∧ crs ≤ 100
   ·rw [if_pos (show (4 ≤ n ∧ n ≤ 12) ∧ n % 2 = 0 ∧ 0 ≤ crs ∧ crs ≤ 100 from ⟨hn, he0, hcr⟩)];have g1 : 0 ≤ n := by omega
    have g2 : n.toNat ≤ 281474976710656 := by omega
    have g3 : 0 ≤ n ∧ n ≤ 60 := by omega
    simp only [decide_eq_true hcr, if_true, if_pos g1, if_pos g2, if_pos g3];have hrl : ((List.replicate n.toNat false).length : Int) = n := by simp; omega
    have hfa := free_all n.toNat n.toNat 0;have hlen := nw_len n.toNat 0;have e0 : (n - 1 - 0 + 1).toNat = n.toNat := by omega
    have c1 := cdCount_eq n crs (by omega) 13 (List.replicate n.toNat false) [] K hrl (by rw [hfa, hlen]; omega) (by omega) (by rw [hfa, hlen]; omega) (by rw [hfa, hlen]; simp; omega) (by simp) (by omega);rw [hfa] at c1
    have hP : Pts n (nwList (fun _ => true) 0 n.toNat) := by
     rw [← hfa];exact ⟨freeF_sorted _ _ _, fun x hx => by have := freeF_ge _ _ _ x hx; omega⟩
    have c2 := countPairings_eq n crs (by omega) 13 (nwList (fun _ => true) 0 n.toNat) [] K (by rw [hlen]; omega) (by omega) (by rw [hlen]; omega) (by simp) hP (by simp) (by rw [hlen]; simp; omega) (by omega);rw [show crs - ((pairsX ([] : List S39) : Nat) : Int) = crs by simp [pairsX]] at c2;rw [c1, e0, c2];simp [cpV]
   ·rw [if_neg (show ¬ ((4 ≤ n ∧ n ≤ 12) ∧ n % 2 = 0 ∧ 0 ≤ crs ∧ crs ≤ 100) from fun z => hcr z.2.2)];simp only [decide_eq_false hcr];simp
 ·rw [if_neg (show ¬ ((4 ≤ n ∧ n ≤ 12) ∧ n % 2 = 0 ∧ 0 ≤ crs ∧ crs ≤ 100) from fun z => hn z.1)];simp only [decide_eq_false hn];by_cases hc : 3 ≤ n ∧ n ≤ 60
  ·simp only [decide_eq_true hc, if_true];by_cases he : Int.tmod n 2 = 0
   ·have hm : Int.tmod n 2 = n % 2 := Int.tmod_eq_emod_of_nonneg (by omega);have h12 : ¬ n ≤ 12 := by omega
    rw [if_pos he];simp [h12]
   ·rw [if_neg he];simp
  ·simp only [decide_eq_false hc];simp
end Go.Proofs.YtnofekfoonmedaaGreatDoor.Q
end
section
namespace Go.Proofs.YtnofekfoonmedaaGreatDoor.X
open Go.RowKit Go.Proofs.YtnofekfoonmedaaGreatDoorW.PrintWords Go.Proofs.YtnofekfoonmedaaGreatDoorW.PrintLast Go.Proofs.YtnofekfoonmedaaGreatDoorW.PrintMore
attribute [local go_sem] max2_int min2_int max_two min_two max_three min_three max_four min_four
set_option linter.unusedVariables false
set_option linter.unusedSimpArgs false
open Go.Proofs.YtnofekfoonmedaaGreatDoor.Q (cat waysL waysL_len waysL_rd cat_pos cdPlane_eq planePoints_eq plF plF_ok plF_all spec_plane jb jb_size cdText_loop insL_mem)
def DrawsBool (w0 w : World) (g N : Nat) (e : Ending) (w' : World) : Prop := ∃ r : Bool, e = .returned (.bool r) ∧ Cur w0 w' g N ∧ Below w0.heap.size w0 w' ∧ KeepBut w w' g none
theorem one_calls (w0 w : World) (g N : Nat) (n : Int) (hC : Cur w0 w g N) (hB : Below w0.heap.size w0 w) (hN : N ≤ 900000) :
  Calls Tryz.prog 40 #[.pointer (some ⟨g, 0, none⟩), .int .i64 n] w (DrawsBool w0 w g (N + 2)) := by
 have HC := mk_ hC;have HB := mk_ hB;clear hC hB;go_enter Tryz.func40, Tryz.ntmps40;go_wp2_with fail;refine (pick_calls w0 _ g N n HC.out HB.out hN).mono ?_;rintro e w1 ⟨x, rfl, _, hC1, hB1, hK1⟩;have HC1 := mk_ hC1;have HB1 := mk_ hB1;have HK1 := mk_ hK1;clear hC1 hB1 hK1 HC HB;go_wp2;go_ret;exact ⟨_, rfl, HC1.out, HB1.out, HK1.out⟩
theorem wayz (x : Int) (h : 4 ≤ x ∧ x ≤ 30 ∧ Int.tmod x 2 = 0) : ∃ m : Nat, x = 2 * (m : Int) ∧ 2 ≤ m ∧ m ≤ 15 ∧ spec_cdPlane.f 300 x = some (waysL (2 * m)) ∧ x < ((waysL (2 * m)).length : Int) ∧ rd (waysL (2 * m)) x = cat m ∧ 1 ≤ cat m ∧ cat m ≤ 10000000 := by
 have e2 : Int.tmod x 2 = x % 2 := Int.tmod_eq_emod_of_nonneg (by omega);obtain ⟨m, rfl⟩ : ∃ m : Nat, x = 2 * (m : Int) := ⟨(x / 2).toNat, by omega⟩;have hc := cat_pos m (by omega);refine ⟨m, rfl, by omega, by omega, cdPlane_eq m (by omega) (by omega) 300 (Nat.le_refl _), ?_, waysL_rd _ m (by omega), hc.1, hc.2⟩;rw [waysL_len];omega
def cppN : List Int := [4, 6, 8, 10, 20, 28, 30, 32, 2, 5, 0, -1]
theorem drawCountPlanePairings_calls (A : Option Addr) (c n : Nat) (l : List Int) (w : World) (hn : l.length = n) (hl : Kd.C (Kd.int .u8) w A l.length l) (hr : isBytes l) :
  Calls Tryz.prog 37 #[.slice A n c] w fun e w' => ∃ p : Int, e = .returned (.int .i64 p) ∧ Below w.heap.size w w' := by
 subst hn;have HL := mk_ hl;have HR := mk_ hr;clear hl hr;go_enter Tryz.func37, Tryz.ntmps37;go_wp2_with fail;refine (among_at (l := cppN) (by simp) (cur_new (Below.refl _ _) HL.out HR.out rfl) (below_one w _) (by omega) (by decide) (by decide) rfl rfl).mono ?_;rintro e w1 ⟨x, rfl, _, hC, hB, hK⟩;have HB := mk_ hB;clear hC hB hK HL HR;go_wp2;go_ret;exact ⟨x, rfl, HB.out⟩
def cpN1 : List Int := [4, 6, 6, 8, 8, 10, 12, 2, 3, 5, 14, -1]
theorem drawCountPairings_calls (A : Option Addr) (c : Nat) (l : List Int) (w : World) (hl : Kd.C (Kd.int .u8) w A l.length l) (hr : isBytes l) :
  Calls Tryz.prog 18 #[.slice A l.length c] w fun e w' => ∃ p r : Int, e = .returned (.tuple #[.int .i64 p, .int .i64 r]) ∧ p ∈ cpN1 ∧ Below w.heap.size w w' := by
 have HL := mk_ hl;have HR := mk_ hr;clear hl hr;go_enter Tryz.func18, Tryz.ntmps18;go_wp2_with fail;refine (among_at (l := cpN1) (by simp) (cur_new (Below.refl _ _) HL.out HR.out rfl) (below_one w _) (by omega) (by decide) (by decide) rfl rfl).mono ?_;rintro e w1 ⟨x, rfl, hx, hC, hB, hK⟩;have HX := mk_ hx;have HC := mk_ hC;have HB := mk_ hB;clear hx hC hB hK HL HR;go_wp2_with fail;refine (pick_calls w _ w.heap.size 2 12 HC.out HB.out (by omega)).mono ?_;rintro e w2 ⟨y, rfl, ⟨hy0, hy1, _⟩, hC, hB, hK⟩;replace hy1 := hy1 (by omega);have HC2 := mk_ hC;have HB2 := mk_ hB;clear hC hB hK HC HB;go_wp2_with fail;refine (pick_calls w _ w.heap.size 4 9 HC2.out HB2.out (by omega)).mono ?_;rintro e w3 ⟨z, rfl, ⟨hz0, hz1, _⟩, hC, hB, hK⟩;replace hz1 := hz1 (by omega);have HB3 := mk_ hB;clear hC hB hK HC2 HB2;go_wp2;go_ret2;exact ⟨x, _, rfl, HX.out, HB3.out⟩
def rkN : List Int := [-1, 0, 1, 2, 5, 14, 4611686018427387904]
theorem drawPlanePairingOfRank_calls (A : Option Addr) (c : Nat) (l : List Int) (w : World) (hl : Kd.C (Kd.int .u8) w A l.length l) (hc : l.length ≤ c) (hr : isBytes l) :
  Calls Tryz.prog 5 #[.slice A l.length c] w fun e w' => ∃ p r : Int, e = .returned (.tuple #[.int .i64 p, .int .i64 r]) ∧ Below w.heap.size w w' := by
 have HL := mk_ hl;have HR := mk_ hr;have HC0 := mk_ (cur_new (Below.refl w.heap.size w) (c := c) hl hr rfl);clear hl hr;go_enter Tryz.func5, Tryz.ntmps5;go_wp2_with fail;refine (drawCountPlanePairings_calls A c 0 (l.take 0) _ rfl (Kd.C_alloc (Kd.C_take HL.out (Nat.zero_le _)) _) (fun x hx => by simp at hx)).mono ?_;rintro e w1 ⟨x, rfl, hb⟩;have HC := mk_ (HC0.out.below hb);have HB := mk_ (below_step (below_one w _) hb);clear hb HL HR HC0;go_wp2_with fail;refine (among_lit w _ w.heap.size 0 3 [4, 6, 8, 10, 12, x, 30, 31] HC.out HB.out (by omega) (by simp) (by simp)).mono ?_;rintro e w2 ⟨p, rfl, _, hC, hB, hK⟩;have HC2 := mk_ hC;have HB2 := mk_ hB;clear hC hB hK HC HB;go_wp2_with fail;refine (spec_cdPlanePoints.calls p _ _ (planePoints_eq p)).mono ?_;rintro e w3 ⟨rfl, ⟨⟨nd, rfl⟩⟩⟩;have HC3 := mk_ (HC2.out.drewN nd);have HB3 := mk_ (pw_below_drewN HB2.out nd);clear HC2 HB2;generalize w2.drewN nd = w3 at HC3 HB3 ⊢;by_cases hp : 4 ≤ p ∧ p ≤ 30 ∧ Int.tmod p 2 = 0
 ·have b0 : decide (4 ≤ p ∧ p ≤ 30 ∧ Int.tmod p 2 = 0) = true := decide_eq_true hp;obtain ⟨m, hm, hm2, hm15, hcs, hcl, hcr, hc1, _⟩ := wayz p hp;have HCS := mk_ hcs;have HCR := mk_ hcr;clear hcs hcr hm;generalize waysL (2 * m) = cs at HCS HCR hcl;have hp4 : 4 ≤ p := hp.1;have hp0 : 0 ≤ p := by omega
  have hp30 : p ≤ 30 := hp.2.1;rw [b0];clear b0 hp;go_wp2_with fail;refine (one_calls w _ w.heap.size 2 5 HC3.out HB3.out (by omega)).mono ?_;rintro e w4 ⟨z, rfl, hC, hB, hK⟩;have HC4 := mk_ hC;have HB4 := mk_ hB;clear hC hB hK HC3 HB3
  cases z with
  | true =>
   go_wp2_with fail;refine (among_lit w _ w.heap.size 4 3 rkN HC4.out HB4.out (by omega) (by decide) (by decide)).mono ?_;rintro e w5 ⟨r, rfl, _, hC, hB, hK⟩;have HB5 := mk_ hB;clear hC hB hK HC4 HB4;go_wp2;go_ret2;exact ⟨p, r, rfl, HB5.out⟩
  | false =>
   go_wp2_with fail;refine start_ (n := 12) (S := fun w' => True) (ds := [8]) #[false, false, false, false, false, false, false, false, false, false, false, false] (by kernel_rfl) rfl rfl trivial (fun hHeld => ?_);refine pu_ 0 (some 23) ?_;refine pu_ 1 (some 24) ?_;refine pu_ 4 (some 27) ?_;refine pu_ 6 (some 29) ?_;refine one_ (i := 2) (N := some 25) #[true, true, true, false, true, false, true, false, false, false, false, false] rfl rfl (by kernel_rfl) (by decide) (fun K hK => ?_);refine goes_ Tryz.func41 (by kernel_rfl) rfl #[.pointer (some ⟨w.heap.size, 0, none⟩), .int .i64 250] (by rfl) rfl rfl (by simp only [List.map_toArray, List.map_cons, List.map_nil]; rfl) ?_;with_reducible refine (pick_calls w _ w.heap.size 4 250 HC4.out.drew (below_drew HB4.out) (by omega)).mono ?_
   rintro e w5 ⟨y, rfl, ⟨hy0, hy1, _⟩, hC, hB, hK⟩;refine ⟨_, rfl, ?_⟩;replace hy1 := hy1 (by omega);have HB5 := mk_ hB;clear hC hB hK HC4 HB4;refine hK.out _ _ trivial (fun hHeld => ?_);clear hK K;refine nm_ (some 25) ?_;refine pu_ 3 (some 26) ?_;refine one_ (i := 5) (N := some 28) #[true, true, true, true, true, true, true, false, false, false, false, false] rfl rfl (by kernel_rfl) (by decide) (fun K hK => ?_);refine goes_ Tryz.func42 (by kernel_rfl) rfl #[.int .i64 p] (by rfl) rfl rfl (by simp only [List.map_toArray, List.map_cons, List.map_nil]; rfl) ?_;with_reducible refine (spec_cdPlane.calls 300 p cs _ HCS.out).mono ?_
   rintro e w6 ⟨v6, rfl, hR, hb⟩;refine ⟨_, rfl, ?_⟩;obtain ⟨A6, c6, e6⟩ := Kd.R_slice hR;subst e6;have HB6 := mk_ (below_step HB5.out hb);have hR' := (Kd.R_reads' hR).2.2;obtain ⟨ad, e6, hx⟩ := Kd.at_int hR' p (by omega) (by omega);cases e6;rw [HCR.out] at hx;clear hR hR' hb HB5;have hcp : (p < (cs.length : Int)) = True := eq_true (by omega);generalize cat m = q at hx hc1;have hq0 : (q == 0) = false := beq_eq_false_iff_ne.2 (by omega);have hq1 : ¬ q = 0 := by omega
   clear hc1;refine hK.out _ _ trivial (fun hHeld => ?_);clear hK K;refine nm_ (some 28) ?_;refine pu_ 7 (some 30) ?_;refine pu_ 10 (some 2) ?_;refine last_ (i := 8) (N := some 31) #[true, true, true, true, true, true, true, true, true, false, true, false] rfl rfl (by kernel_rfl) (by decide) (fun K hK => ?_);refine value_ (w1 := ?_) (v := ?_) (by rfl) rfl ?_ ?_;rotate_left 2
   ·go_simp;constructor
    ·rfl
    ·rfl
   refine hK.out _ _ ?_;clear hK K;refine nm_ (some 31) ?_;refine pu_ 9 (some 32) ?_;refine pu_ 11 (some 3) ?_;refine done_ (by kernel_rfl) ?_;go_wp2;go_ret2;exact ⟨p, _, rfl, HB6.out⟩
 ·have b0 : decide (4 ≤ p ∧ p ≤ 30 ∧ Int.tmod p 2 = 0) = false := decide_eq_false hp;rw [b0];clear b0 hp;go_wp2_with fail;refine (among_lit w _ w.heap.size 2 3 rkN HC3.out HB3.out (by omega) (by decide) (by decide)).mono ?_;rintro e w5 ⟨r, rfl, _, hC, hB, hK⟩;have HB5 := mk_ hB;clear hC hB hK HC3 HB3;go_wp2;go_ret2;exact ⟨p, r, rfl, HB5.out⟩
theorem drawChordsText_calls (A : Option Addr) (c : Nat) (l : List Int) (w : World) (hl : Kd.C (Kd.int .u8) w A l.length l) (hr : isBytes l) :
  Calls Tryz.prog 29 #[.slice A l.length c] w fun e w' => ∃ (v : Value) (m : List S39), e = .returned v ∧ m.length ≤ 60 ∧ Kd.R k39 39 w' w.heap.size (fun _ => True) v m ∧ Below w.heap.size w w' := by
 have HL := mk_ hl;have HR := mk_ hr;clear hl hr;go_enter Tryz.func29, Tryz.ntmps29;go_wp2_with fail;refine (chords_calls w _ w.heap.size 0 (cur_new (Below.refl _ _) HL.out HR.out rfl) (below_one w _) (by omega)).mono ?_;rintro e w1 ⟨p, v, m, rfl, hm, hC1, hB1, hK1, hR1⟩;have HB1 := mk_ hB1;have HR1 := mk_ (Kd.R_mono (ok' := fun _ => True) hR1 (fun _ _ => trivial));clear hB1 hK1 hC1 hR1 HL HR;go_wp2;go_ret;exact ⟨v, m, rfl, hm, HR1.out, HB1.out⟩
theorem drawDropChord_calls (A : Option Addr) (c : Nat) (l : List Int) (w : World) (hl : Kd.C (Kd.int .u8) w A l.length l) (hr : isBytes l) :
  Calls Tryz.prog 24 #[.slice A l.length c] w fun e w' => ∃ (p : Int) (v : Value) (m : List S39) (t : Int), e = .returned (.tuple #[.int .i64 p, v, .int .i64 t]) ∧ m.length ≤ 60 ∧ Kd.R k39 39 w' w.heap.size (fun _ => True) v m ∧ Below w.heap.size w w' := by
 have HL := mk_ hl;have HR := mk_ hr;clear hl hr;go_enter Tryz.func24, Tryz.ntmps24;go_wp2_with fail;refine (chords_calls w _ w.heap.size 0 (cur_new (Below.refl _ _) HL.out HR.out rfl) (below_one w _) (by omega)).mono ?_;rintro e w1 ⟨p, v, m, rfl, hm, hC1, hB1, hK1, hR1⟩;obtain ⟨A1, c1, rfl⟩ := Kd.R_slice hR1;have HC1 := mk_ hC1;have HB1 := mk_ hB1;have HR1 := mk_ hR1;clear hB1 hK1 hC1 hR1 HL HR;go_wp2_with fail;refine (pick_calls w _ w.heap.size 200 ((m.length : Int) + 1) (HC1.out.up (by omega)) HB1.out (by omega)).mono ?_;rintro e w2 ⟨x, rfl, ⟨hx0, hx1, _⟩, hC2, hB2, hK2⟩;replace hx1 := hx1 (by omega);have HC2 := mk_ hC2;have HB2 := mk_ hB2;have HR2 := mk_ (Kd.R_keep HR1.out hK2 (fun _ h => h.1));clear hB2 hK2 hC2 HC1 HB1 HR1;go_wp2_with fail;refine (pick_calls w _ w.heap.size 202 9 HC2.out HB2.out (by omega)).mono ?_;rintro e w3 ⟨y, rfl, ⟨hy0, hy1, _⟩, hC3, hB3, hK3⟩;replace hy1 := hy1 (by omega);have HB3 := mk_ hB3;have HR3 := mk_ (Kd.R_mono (ok' := fun _ => True) (Kd.R_keep HR2.out hK3 (fun _ h => h.1)) (fun _ _ => trivial));clear hB3 hK3 hC3 HC2 HB2 HR2;go_wp2;go_ret3;exact ⟨p, _, m, _, rfl, hm, HR3.out, HB3.out⟩
theorem drawAddChord_calls (A : Option Addr) (c : Nat) (l : List Int) (w : World) (hl : Kd.C (Kd.int .u8) w A l.length l) (hr : isBytes l) :
  Calls Tryz.prog 21 #[.slice A l.length c] w fun e w' => ∃ (p : Int) (v : Value) (m : List S39) (a b : Int), e = .returned (.tuple #[.int .i64 p, v, .agg #[.int .i64 a, .int .i64 b]]) ∧ m.length ≤ 60 ∧ Kd.R k39 39 w' w.heap.size (fun _ => True) v m ∧ Below w.heap.size w w' := by
 have HL := mk_ (Kd.C_alloc hl (.cells #[.int .i64 0, .int .i64 0] 39 (0, 0)));have HR := mk_ hr;clear hl hr;go_enter Tryz.func21, Tryz.ntmps21;go_wp2_with fail;obtain ⟨w', hw'⟩ : ∃ x, x = w.alloc (.cells #[.int .i64 0, .int .i64 0] 39 (0, 0)) := ⟨_, rfl⟩;have hsz : w'.heap.size = w.heap.size + 1 := by rw [hw']; exact World.size_alloc _ _
 have BK := mk_ (show w'.heap[w.heap.size]? = some (.cells #[.int .i64 0, .int .i64 0] 39 (0, 0)) by rw [hw']; exact blk_new w _);have BW := mk_ (show Below w.heap.size w w' by rw [hw']; exact below_one w _);rw [← hw'] at HL ⊢;clear hw';refine (chords_calls w' _ (w.heap.size + 1) 0 (cur_new (Below.refl _ _) HL.out HR.out hsz) (below_one w' _) (by omega)).mono ?_;rintro e w1 ⟨p, v, m, rfl, hm, hC1, hB1, hK1, hR1⟩;have HC1 := mk_ hC1;have HB1 := mk_ hB1;have HR1 := mk_ hR1;have BK1 := mk_ (keep_box hK1 (blk_alloc BK.out _) (by omega));clear hB1 hK1 hC1 hR1 HL HR BK;go_wp2_with fail;refine (pick_calls w' _ (w.heap.size + 1) 200 8 (HC1.out.up (by omega)) HB1.out (by omega)).mono ?_;rintro e w2 ⟨x, rfl, ⟨hx0, hx1, _⟩, hC2, hB2, hK2⟩;replace hx1 := hx1 (by omega);have HC2 := mk_ hC2;have HB2 := mk_ hB2;have HR2 := mk_ (Kd.R_keep HR1.out hK2 (fun _ h => h.1));have BK2 := mk_ (keep_box hK2 BK1.out (by omega));clear hB2 hK2 hC2 HC1 HB1 HR1 BK1;go_wp2_with fail;refine (pick_calls w' _ (w.heap.size + 1) 202 9 HC2.out HB2.out (by omega)).mono ?_;rintro e w3 ⟨y, rfl, ⟨hy0, hy1, _⟩, hC3, hB3, hK3⟩;replace hy1 := hy1 (by omega);have HC3 := mk_ hC3;have HB3 := mk_ hB3;have HR3 := mk_ (Kd.R_keep HR2.out hK3 (fun _ h => h.1));have BK3 := mk_ (keep_box hK3 BK2.out (by omega));clear hB3 hK3 hC3 HC2 HB2 HR2 BK2;go_wp2_with fail;refine (pick_calls w' _ (w.heap.size + 1) 204 12 HC3.out HB3.out (by omega)).mono ?_;rintro e w4 ⟨z, rfl, ⟨hz0, hz1, _⟩, hC4, hB4, hK4⟩;replace hz1 := hz1 (by omega);have HB4 := mk_ (below_step BW.out (Below.mono hB4 (by omega)));have HR4 := mk_ (Kd.R_bound (Kd.R_keep HR3.out hK4 (fun _ h => h.1)));have BK4 := mk_ (keep_box hK4 BK3.out (by omega));clear hB4 hK4 hC4 HC3 HB3 HR3 BK3 BW;have hc0 : w4.cell? ⟨w.heap.size, 0, none⟩ = some (.int .i64 0) := (blk_cell BK4.out 0).trans rfl;have hc1 : w4.cell? ⟨w.heap.size, 1, none⟩ = some (.int .i64 0) := (blk_cell BK4.out 1).trans rfl;have hf0 := blk_frozen BK4.out 0;have hf1 := blk_frozen BK4.out 1;go_wp2;refine bodyPost_ret (results_list (rs := [.tmp 2, .tmp 3, .cell 4 39]) (vs := [.int .i64 p, v, .agg #[.int .i64 (x - y / 8), .int .i64 z]]) rfl (by simp) ?_) rfl ?_
 ·exact .tmp (.tmp (.cell w.heap.size 39 _ (0, 0) _ rfl (blk_two BK4.out _ _) Tryz.underlying39 rfl (by kernel_rfl) .nil))
 ·refine ⟨p, v, m, _, _, rfl, hm, ?_, by repeat (first | exact HB4.out | refine below_set ?_ (Nat.le_refl _))⟩;exact Kd.R_mono (ok' := fun _ => True) (Kd.R_lower (Kd.R_far (p := ⟨w.heap.size, 1, none⟩) (Kd.R_far (p := ⟨w.heap.size, 0, none⟩) HR4.out (fun k hk e => by have := hk.1.2; have := hk.2.1; simp only at e; omega) _) (fun k hk e => by have := hk.1.2; have := hk.2.1; simp only at e; omega) _) (by omega)) (fun _ _ => trivial)
end Go.Proofs.YtnofekfoonmedaaGreatDoor.X
end
section
namespace Go.Proofs.YtnofekfoonmedaaGreatDoor.X
open Go.RowKit Go.Proofs.YtnofekfoonmedaaGreatDoorW.PrintWords Go.Proofs.YtnofekfoonmedaaGreatDoorW.PrintLast Go.Proofs.YtnofekfoonmedaaGreatDoorW.PrintMore
attribute [local go_sem] max2_int min2_int max_two min_two max_three min_three max_four min_four
set_option linter.unusedVariables false
set_option linter.unusedSimpArgs false
open Go.Proofs.YtnofekfoonmedaaGreatDoor.Q (cat waysL waysL_len waysL_rd cat_pos cdPlane_eq planePoints_eq plF plF_ok spec_plane jb jb_size cdText_loop mkC insL insL_len srChord_eq srPut_eq Proper)
open Go.Proofs.YtnofekfoonmedaaGreatDoor.Q (wrap64_id)
theorem own_eq (l : List Int) (h : l.length ≤ 1000) : spec_l1Own.f l = some l := by
 unfold spec_l1Own.f;simp only [Option.bind_some, List.length_nil, Nat.zero_add, List.nil_append];rw [if_pos (by omega)]
theorem own_calls (A0 : Option Addr) (c0 n : Nat) (l0 : List Int) (w : World) (hn : l0.length = n) (h : l0.length ≤ 1000) (hr0 : Kd.C (Kd.int .i64) w A0 l0.length l0) (hc0 : l0.length ≤ c0) :
  Calls Tryz.prog 59 #[.slice A0 n c0] w fun e w' => ∃ v0_ : Value, e = .returned v0_ ∧ Kd.R (Kd.int .i64) 3 w' w.heap.size (fun _ => True) v0_ l0 ∧ Below w.heap.size w w' := by
 subst hn;exact spec_l1Own.calls A0 c0 l0 l0 w hr0 hc0 (own_eq l0 h)
theorem rank_in (y q : Int) (h0 : 0 ≤ y) (h1 : y < 250) (hq : 1 ≤ q) : 0 ≤ Int.tmod (wrap64 (y * 7919)) q ∧ Int.tmod (wrap64 (y * 7919)) q < q := by
 have e : wrap64 (y * 7919) = y * 7919 := wrap64_id (by omega) (by omega);rw [e, Int.tmod_eq_emod_of_nonneg (by omega)];exact ⟨Int.emod_nonneg _ (by omega), Int.emod_lt_of_pos _ (by omega)⟩
def TellsSet (w : World) (e : Ending) (w' : World) : Prop := ∃ (p : Int) (v : Value) (l : List S39), e = .returned (.tuple #[.int .i64 p, v]) ∧ l.length ≤ 60 ∧ Kd.R k39 39 w' w.heap.size (fun _ => True) v l ∧ Below w.heap.size w w'
theorem drawIsPairing_calls (A : Option Addr) (c : Nat) (l : List Int) (w : World) (hl : Kd.C (Kd.int .u8) w A l.length l) (hr : isBytes l) :
  Calls Tryz.prog 16 #[.slice A l.length c] w (TellsSet w) := by
 have HL := mk_ hl;have HR := mk_ hr;clear hl hr;go_enter Tryz.func16, Tryz.ntmps16;go_wp2_with fail;refine (one_calls w _ w.heap.size 0 3 (cur_new (Below.refl _ _) HL.out HR.out rfl) (below_one w _) (by omega)).mono ?_;rintro e w1 ⟨t, rfl, hC, hB, hK⟩;have HC1 := mk_ hC;have HB1 := mk_ hB;clear hC hB hK HL HR
 cases t with
 | true =>
  go_wp2_with fail;refine (chords_calls w _ w.heap.size 2 HC1.out HB1.out (by omega)).mono ?_;rintro e w2 ⟨p, v, m, rfl, hm, hC, hB, hK, hR⟩;have HB2 := mk_ hB;have HR2 := mk_ (Kd.R_mono (ok' := fun _ => True) hR (fun _ _ => trivial));clear hC hB hK hR HC1 HB1;go_wp2;go_ret2;exact ⟨p, v, m, rfl, hm, HR2.out, HB2.out⟩
 | false =>
  go_wp2_with fail;refine (pick_calls w _ w.heap.size 2 4 HC1.out HB1.out (by omega)).mono ?_;rintro e w2 ⟨z, rfl, ⟨hz0, hz1, _⟩, hC, hB, hK⟩;replace hz1 := hz1 (by omega);have HC2 := mk_ hC;have HB2 := mk_ hB;clear hC hB hK HC1 HB1;go_wp2_with fail;go_loopg [6, 7] 10 (fun gg v6 v7 wr => ∃ (l : List Int), v7 = .int .i64 (l.length : Int) ∧ (l.length : Int) ≤ 4 + 2 * z ∧ 10 - l.length ≤ gg ∧ Aside0 (Kd.R (Kd.int .i64) 3 wr w.heap.size (fun k => k ≠ w.heap.size) v6 l) ∧ Aside0 (Cur w wr w.heap.size (4 + 2 * l.length)) ∧ Aside0 (Below w.heap.size w wr))
  case atStart => exact ⟨[], rfl, by simp only [List.length_nil]; omega, by simp, ⟨Kd.R_nil _ _ _ _ _⟩, HC2, HB2⟩
  case round =>
   clear HC2 HB2;obtain ⟨l, rfl, hi, hig, HR, HC, HB⟩ := hrel;obtain ⟨A6, c6, rfl⟩ := Kd.R_slice HR.out;by_cases hz : (l.length : Int) < 4 + 2 * z
   ·have bz : decide ((l.length : Int) < 4 + 2 * z) = true := decide_eq_true hz;go_wp2_with fail;refine (pick_calls w _ w.heap.size (4 + 2 * l.length) ((l.length : Int) + 1) HC.out HB.out (by omega)).mono ?_;rintro e w3 ⟨x, rfl, ⟨hx0, hx1, _⟩, hC, hB, hK⟩;replace hx1 := hx1 (by omega);have HC3 := mk_ hC;have HB3 := mk_ hB;have HR3 := mk_ (Kd.R_keep HR.out hK (fun _ h => h));clear hC hB hK HC HB HR;obtain ⟨kn, rfl⟩ : ∃ n : Nat, x = (n : Int) := ⟨x.toNat, by omega⟩;have hkl : kn ≤ l.length := by omega
    have hcl := (Kd.R_reads' HR3.out).2.1;have HC6 := mk_ (Kd.R_reads' HR3.out).2.2;have qk : ((kn : Int) ≤ (c6 : Int)) = True := eq_true (by omega);have qk2 : ((kn : Int) ≤ (l.length : Int)) = True := eq_true (by omega);have htl : (l.take kn).length = kn := by simp; omega
    clear HR3;go_wp2_with fail;refine (own_calls A6 c6 kn (l.take kn) _ htl (by omega) (Kd.C_take HC6.out hkl) (by omega)).mono ?_;rintro e w4 ⟨v9, rfl, hR, hb⟩;have HX4 := mk_ hb;have HN := mk_ hR;clear hR hb;obtain ⟨y, hy⟩ : ∃ y, y = l.drop kn := ⟨_, rfl⟩;have hyl : y.length = l.length - ((kn : Int)).toNat := by rw [hy, List.length_drop]; omega
    obtain ⟨i0, hi0, _, hsz, _⟩ := info_parts info3;have hcut := cut_from (P := Tryz.prog) 46 3 .i64 Tryz.underlying46 hi0 1 hsz A6 l.length c6 (kn : Int) (by omega) (by omega);have hr := Kd.C_drop (m := ((kn : Int)).toNat) (c := c6) HC6.out (by omega) hcl;obtain ⟨A8, hA8⟩ : ∃ AX_, AX_ = (if c6 = ((kn : Int)).toNat then A6 else (A6 : Option Addr).map (·.add (((kn : Int)).toNat * 1))) := ⟨_, rfl⟩;obtain ⟨c8, hc8⟩ : ∃ cX_, cX_ = c6 - ((kn : Int)).toNat := ⟨_, rfl⟩;rw [show l.drop ((kn : Int)).toNat = y by rw [hy, Int.toNat_natCast]] at hr;replace hr : Kd.C (Kd.int .i64) w3 A8 y.length y := by rw [hA8]; exact hr
    rw [← hyl, ← hA8, ← hc8] at hcut;have HY := mk_ hr;have hyl2 : y.length + kn = l.length := by rw [hy, List.length_drop]; omega
    have HYL := mk_ hyl2;have HTL := mk_ htl;clear hr hi0 hsz hc8 hA8 hyl hy hyl2 htl;have HI := mk_ hi;have HIG := mk_ hig;clear hi hig;go_wp2_with (first | ((with_reducible refine gate_builtin (b := .append) (xs := #[.tmp 38, .tmp 40]) rfl ?_); at_builtin; refine Kd.R_append (Kd.int .i64) (w0 := w3) w3.heap.size rfl (.tmp 38) (.tmp 40) 46 3 (.int .i64 0) 8 rfl Tryz.underlying46 info3 rfl (by decide) (by omega) v9 (l.take kn) (l.length : Int) [.int .i64 (l.length : Int)] (fun _ => True) (fun _ => False) rfl (by first | (go_simp; done) | (go_simp; rfl)) ?aP (fun _ hk => hk.elim) ?aF HN.out HX4.out ?aS ?aL ?_; (case aP => exact rfl); (case aF => exact fun _ _ => trivial); (case aS => exact below_size HX4.out); (case aL => have := HTL.out; have := HI.out; omega); intro v10 w5 hR hB hG hA; have HN5 := mk_ hR; have HX5 := mk_ hB; clear hR hB hG hA HN HX4) | ((with_reducible refine gate_builtin (b := .append) (xs := #[.tmp 42, .tmp 45]) rfl ?_); at_builtin; refine Kd.R_append_rows (Kd.int .i64) (w0 := w3) w3.heap.size rfl (.tmp 42) (.tmp 45) 46 3 (.int .i64 0) 8 rfl Tryz.underlying46 info3 rfl (by decide) (by omega) v10 (l.take kn ++ [(l.length : Int)]) y _ _ _ (fun _ => True) (fun _ => False) rfl rfl HN5.out (Kd.C_below HY.out HX5.out) (fun _ _ h => h) (fun _ h => h.elim) ?aF HX5.out ?aS ?aL ?_; (case aF => exact fun _ _ => trivial); (case aS => exact below_size HX5.out); (case aL => have := HTL.out; have := HI.out; have := HYL.out; simp only [List.length_append, List.length_cons, List.length_nil]; omega); intro v11 w6 hR hB hG hA; have HN6 := mk_ hR; have HX6 := mk_ hB; clear hR hB hG hA HN5 HX5));have hll : (l.take kn ++ [(l.length : Int)] ++ y).length = l.length + 1 := by have := HTL.out; have := HYL.out; simp only [List.length_append, List.length_cons, List.length_nil]; omega
    have HI := HI.out;have HIG := HIG.out;go_roundg (10 - (l.length + 1))
    case measure => omega
    case rel => exact ⟨l.take kn ++ [(l.length : Int)] ++ y, by rw [hll]; go_num, by omega, by omega, ⟨Kd.R_lower (Kd.R_mono (Kd.R_bound HN6.out) (fun k hk => by have := below_size HB3.out; have := HC3.out.lt; omega)) (below_size HB3.out)⟩, ⟨(HC3.out.below HX6.out).up (by omega)⟩, ⟨below_step HB3.out HX6.out⟩⟩
   ·have bz : decide ((l.length : Int) < 4 + 2 * z) = false := decide_eq_false hz;have HI2 := mk_ (show (l.length : Int) = 4 + 2 * z by omega);have HR3 := mk_ (Kd.R_reads' HR.out).2.2;clear HC HR hi hig;generalize wr = ws at HR3 HB ⊢;go_wp2_with fail;go_loopg [10, 11] 12 (fun gg v10 v11 wq => ∃ (m : List S39) (j : Nat), v11 = .int .i64 (j : Int) ∧ Aside0 (j % 2 = 0) ∧ 12 - j ≤ gg ∧ m.length ≤ j ∧ j ≤ 12 ∧ Aside0 (Kd.R k39 39 wq ws.heap.size (fun k => ws.heap.size ≤ k) v10 m) ∧ Aside0 (Below ws.heap.size ws wq))
    case atStart => exact ⟨[], 0, rfl, ⟨rfl⟩, by omega, by simp, by omega, ⟨Kd.R_nil _ _ _ _ _⟩, ⟨by repeat (first | exact Below.refl _ _ | apply below_drew)⟩⟩
    case round =>
     obtain ⟨m, j, rfl, HJ, hjg, hmj, hj12, HR, HBQ⟩ := hrel;by_cases hz2 : (j : Int) < 4 + 2 * z
     ·have bz2 : decide ((j : Int) < 4 + 2 * z) = true := decide_eq_true hz2;obtain ⟨j1, hj1⟩ : ∃ j1 : Nat, j1 = j + 1 := ⟨_, rfl⟩;obtain ⟨ad, eA, hx0⟩ := Kd.at_int (Kd.C_below HR3.out HBQ.out) (j : Int) (by omega) (by have := HI2.out; omega);obtain ⟨_, eB, hx1⟩ := Kd.at_int (Kd.C_below HR3.out HBQ.out) (j1 : Int) (by omega) (by have := HI2.out; have := HJ.out; omega);subst eA;cases eB;rw [Int.toNat_natCast] at hx0 hx1;generalize rd l (j : Int) = a at hx0;generalize rd l (j1 : Int) = b at hx1;have hjl : (j : Int) < (l.length : Int) := by have := HI2.out; omega
      have hjl1 : (j1 : Int) < (l.length : Int) := by have := HI2.out; have := HJ.out; omega
      have wj := show wrap64 ((j : Int) + 1) = (j1 : Int) from by rw [hj1, wrap64_id (by omega) (by omega)]; rfl
      have HJ1 := mk_ hj1;clear hj1;go_wp2_with fail;refine start_ (n := 13) (S := fun w' => w'.cell? (ad.add j) = some (.int .i64 a) ∧ w'.cell? (ad.add j1) = some (.int .i64 b)) (ds := [11]) #[false, false, false, false, false, false, false, false, false, false, false, false, false] (by kernel_rfl) rfl rfl ⟨hx0, hx1⟩ (fun hHeld => ?_);refine pu_ 0 (some 52) ?_;refine pu_ 1 (some 53) ?_;refine pu_ 2 (some 54) ?_;refine pu_ 3 (some 55) ?_;refine pu_ 5 (some 57) ?_;refine pu_ 6 (some 58) ?_;refine pu_ 7 (some 59) ?_;refine pu_ 8 (some 60) ?_;refine ta2_ 4 (some 56) hHeld ?_;refine ta2_ 9 (some 61) hHeld ?_;refine one_ (i := 10) (N := some 62) #[true, true, true, true, true, true, true, true, true, true, true, false, false] rfl rfl (by kernel_rfl) (by decide) (fun K hK => ?_);refine goes_ Tryz.func61 (by kernel_rfl) rfl #[.int .i64 a, .int .i64 b] (by rfl) rfl rfl (by simp only [List.map_toArray, List.map_cons, List.map_nil]; rfl) ?_;with_reducible refine (spec_srChord.calls _ _ (mkC _ _).f0 (mkC _ _).f1 _ (srChord_eq _ _)).mono ?_
      rintro e w5 ⟨rfl, hb⟩;refine ⟨_, rfl, ?_⟩;have HQ3 := mk_ (below_step (below_drew HBQ.out) hb);have HR3 := mk_ (Kd.R_below (Kd.R_drew HR.out) hb);replace hx0 := pw_cell_below hb hx0;replace hx1 := pw_cell_below hb hx1;clear hb HBQ HR;generalize mkC _ _ = c;clear wj;refine hK.out _ _ ⟨hx0, hx1⟩ (fun hHeld => ?_);clear hK K;refine nm_ (some 62) ?_;refine last_ (i := 11) (N := some 63) #[true, true, true, true, true, true, true, true, true, true, true, true, false] rfl rfl (by kernel_rfl) (by decide) (fun K hK => ?_);refine goes_ Tryz.func60 (by kernel_rfl) rfl #[u10, .agg #[.int .i64 c.f0, .int .i64 c.f1]] (by rfl) rfl rfl (by simp only [List.map_toArray, List.map_cons, List.map_nil]; rfl) ?_;with_reducible refine (spec_srPut.calls 1000 (fun k => ws.heap.size ≤ k) _ m c.f0 c.f1 (insL c m) ws _ HQ3.out HR3.out (srPut_eq c m 1000 (by omega) (by omega))).mono ?_
      rintro e w6 ⟨v, rfl, hR, hB, hk⟩;refine ⟨_, rfl, ?_⟩;have hil := insL_len c m;have HB4 := mk_ hB;have hsz := below_size HQ3.out;have HR4 := mk_ (Kd.R_mono hR (fun k h => h.elim id (fun h => Nat.le_trans hsz h)));clear hR hB hk HQ3 HR3 hx0 hx1;refine hK.out _ _ ?_;clear hK K;refine nm_ (some 63) ?_;refine pu_ 12 (some 10) ?_;refine done_ (by kernel_rfl) ?_;go_wp2;go_roundg (12 - (j + 2))
      case measure => omega
      case rel => exact ⟨insL c m, j + 2, by go_num, ⟨by have := HJ.out; omega⟩, by omega, by omega, by have := HI2.out; omega, HR4, HB4⟩
     ·have bz2 : decide ((j : Int) < 4 + 2 * z) = false := decide_eq_false hz2;go_wp2;go_ret2;exact ⟨_, _, m, rfl, by omega, Kd.R_mono (ok' := fun _ => True) (Kd.R_lower HR.out (below_size HB.out)) (fun _ _ => trivial), below_step HB.out HBQ.out⟩
end Go.Proofs.YtnofekfoonmedaaGreatDoor.X
end
