/- What the statement FnStarsCross needs, part 6 of 6: words, contracts and lemmas, cut to what is named. Written by a program of this work (wip/tools/gpack.py) out of its texts and the print's. -/
import Derived.Test.YtnjocighalandaaZFnStarsCross4
import Derived.Laws.Bits64b
import Derived.Shelf.RegionOpenPlain
import Derived.Lib.RowBridge
import Derived.WideShapes
import Derived.ChangeSame
import Derived.OpenShut
import Derived.DataElems
import Derived.ChangeArms
import Derived.ChangeSlices
set_option linter.unusedVariables false
set_option linter.unusedSimpArgs false
section
namespace Go.Proofs.Ytnjocighalandaa.X
open Go.RowKit Go.Proofs.YtnjocighalandaaW.PrintWords Go.Proofs.YtnjocighalandaaW.PrintLast Go.Proofs.YtnjocighalandaaW.PrintMore
attribute [local go_sem] max2_int min2_int max_two min_two max_three min_three max_four min_four
set_option linter.unusedVariables false
set_option linter.unusedSimpArgs false
def Cur (w0 w : World) (g N : Nat) : Prop := ∃ (A : Option Addr) (c : Nat) (l : List Int) (at_ sd : Int), w.heap[g]? = some (.cells #[.slice A l.length c, .int .i64 at_, .int .u64 sd] 61 (0, 0)) ∧ w0.heap.size ≤ g ∧ Kd.C (Kd.int .u8) w0 A l.length l ∧ (∀ i : Int, 0 ≤ i → i < l.length → 0 ≤ rd l i ∧ rd l i ≤ 255) ∧ 0 ≤ at_ ∧ at_ ≤ N
def DrawsInt (P : Int → Prop) (w0 w : World) (g N : Nat) (e : Ending) (w' : World) : Prop := ∃ r : Int, e = .returned (.int .i64 r) ∧ P r ∧ Cur w0 w' g N ∧ Below w0.heap.size w0 w' ∧ KeepBut w w' g none
theorem bits_and_255 (x : Int) (h0 : 0 ≤ x) (h1 : x < 18446744073709551616) : 0 ≤ Go.bits .and .u64 x 255 ∧ Go.bits .and .u64 x 255 ≤ 255 := by
  have h := bits_and_u64_nat x.toNat 255 (by omega) (by omega)
  rw [Int.toNat_of_nonneg h0] at h
  have h2 : ((255 : Nat) : Int) = 255 := rfl
  rw [h2] at h
  rw [h]
  have := Nat.and_le_right (n := x.toNat) (m := 255)
  exact ⟨Int.natCast_nonneg _, by omega⟩
theorem draw_small (y : Int) : 0 ≤ wrap64 (Go.bits .and .u64 (IntKind.u64.wrap y / 1099511627776) 255) ∧ wrap64 (Go.bits .and .u64 (IntKind.u64.wrap y / 1099511627776) 255) ≤ 255 := by
  have h : 0 ≤ IntKind.u64.wrap y ∧ IntKind.u64.wrap y < 18446744073709551616 := by rw [IntKind.wrap_u64]; omega
  have := bits_and_255 (IntKind.u64.wrap y / 1099511627776) (by omega) (by omega)
  unfold wrap64
  omega
set_option maxHeartbeats 2000000 in
set_option maxRecDepth 100000 in
theorem next_calls (w0 w : World) (g N : Nat) (hC : Cur w0 w g N) (hB : Below w0.heap.size w0 w) (hN : N ≤ 1000000) :
    Calls Try.prog 66 #[.pointer (some ⟨g, 0, none⟩)] w (DrawsInt (fun r => 0 ≤ r ∧ r ≤ 255) w0 w g (N + 1)) := by
  obtain ⟨A, c, l, at_, sd, hg, hge, hl, hr, h0, h1⟩ := hC
  have HG := Aside0.mk hg
  have HL := Aside0.mk hl
  have HB := Aside0.mk hB
  have HR := Aside0.mk hr
  have hc0 : w.cell? ⟨g, 0, none⟩ = some (.slice A l.length c) := (blk_cell hg 0).trans rfl
  have hc1 : w.cell? ⟨g, 1, none⟩ = some (.int .i64 at_) := (blk_cell hg 1).trans rfl
  have hc2 : w.cell? ⟨g, 2, none⟩ = some (.int .u64 sd) := (blk_cell hg 2).trans rfl
  have hf1 := blk_frozen hg 1
  have hf2 := blk_frozen hg 2
  clear hg hl hB hr
  have hmax := Kd.C_max HL.out
  go_enter Try.func66, Try.ntmps66
  go_wp2
  by_cases hlt : at_ < l.length
  · have b0 : decide (at_ < (l.length : Int)) = true := decide_eq_true hlt
    have b1 : decide (at_ + 1 ≤ (l.length : Int)) = true := decide_eq_true (by omega)
    obtain ⟨ad, e, hx⟩ := Kd.at_int HL.out at_ h0 hlt
    subst e
    have hx2 := pw_cell_below HB.out hx
    obtain ⟨r0, r1⟩ := HR.out at_ h0 hlt
    generalize rd l at_ = x at hx hx2 r0 r1
    clear hx
    repeat (go_quiet (fail); try go_wp2)
    go_ret
    exact ⟨_, rfl, ⟨r0, r1⟩, ⟨_, c, l, at_ + 1, _, by (with_reducible repeat (first | refine blk_drewN ?_ _ | refine blk_drew ?_)); refine blk_put (cs := #[_, .int .i64 (at_ + 1), .int .u64 sd]) ?_ 2 _ rfl; refine blk_put (cs := #[_, .int .i64 at_, .int .u64 sd]) ?_ 1 _ rfl; (with_reducible repeat (first | refine blk_drewN ?_ _ | refine blk_drew ?_)); exact HG.out, hge, HL.out, HR.out, by omega, by omega⟩, by repeat (first | exact HB.out | apply pw_below_drewN | refine below_set ?_ hge), by repeat (first | exact KeepBut.refl w g none | apply keep_drewN | apply KeepBut.set_)⟩
  · have b0 : decide (at_ < (l.length : Int)) = false := decide_eq_false hlt
    have b1 : decide (at_ + 1 ≤ (l.length : Int)) = false := decide_eq_false (by omega)
    repeat (go_quiet (fail); try go_wp2)
    go_ret
    exact ⟨_, rfl, draw_small _, ⟨_, c, l, at_ + 1, _, by (with_reducible repeat (first | refine blk_drewN ?_ _ | refine blk_drew ?_)); refine blk_put (cs := #[_, .int .i64 (at_ + 1), .int .u64 sd]) ?_ 2 _ rfl; refine blk_put (cs := #[_, .int .i64 at_, .int .u64 sd]) ?_ 1 _ rfl; (with_reducible repeat (first | refine blk_drewN ?_ _ | refine blk_drew ?_)); exact HG.out, hge, HL.out, HR.out, by omega, by omega⟩, by repeat (first | exact HB.out | apply pw_below_drewN | refine below_set ?_ hge), by repeat (first | exact KeepBut.refl w g none | apply keep_drewN | apply KeepBut.set_)⟩
theorem Cur.up {w0 w : World} {g N N' : Nat} (h : Cur w0 w g N) (hN : N ≤ N') : Cur w0 w g N' := by
  obtain ⟨A, c, l, at_, sd, hg, hge, hl, hr, h0, h1⟩ := h
  exact ⟨A, c, l, at_, sd, hg, hge, hl, hr, h0, by omega⟩
def Picked (n r : Int) : Prop := 0 ≤ r ∧ (1 ≤ n → r < n) ∧ (n ≤ 1 → r = 0)
set_option maxHeartbeats 2000000 in
set_option maxRecDepth 100000 in
theorem pick_calls (w0 w : World) (g N : Nat) (n : Int) (hC : Cur w0 w g N) (hB : Below w0.heap.size w0 w) (hN : N ≤ 900000) :
    Calls Try.prog 47 #[.pointer (some ⟨g, 0, none⟩), .int .i64 n] w (DrawsInt (Picked n) w0 w g (N + 2)) := by
  have HC := Aside0.mk hC
  have HB := Aside0.mk hB
  clear hC hB
  go_enter Try.func47, Try.ntmps47
  by_cases h1 : n ≤ 1
  · have b0 : decide (n ≤ 1) = true := decide_eq_true h1
    go_wp2
    go_ret
    exact ⟨0, rfl, ⟨Int.le_refl _, fun h => by omega, fun _ => rfl⟩, HC.out.up (by omega), HB.out, KeepBut.refl w g none⟩
  · have b0 : decide (n ≤ 1) = false := decide_eq_false h1
    go_wp2_with fail
    refine (next_calls w0 _ g N HC.out HB.out (by omega)).mono ?_
    rintro e w1 ⟨x, rfl, ⟨hx0, hx1⟩, hC1, hB1, hK1⟩
    have HC1 := Aside0.mk hC1
    have HB1 := Aside0.mk hB1
    have HK1 := Aside0.mk hK1
    clear hC1 hB1 hK1 HC HB
    have b1 : (n == 0) = false := beq_eq_false_iff_ne.2 (by omega)
    by_cases h2 : n > 200
    · have b2 : decide (n > 200) = true := decide_eq_true h2
      go_wp2_with fail
      refine (next_calls w0 _ g (N + 1) HC1.out HB1.out (by omega)).mono ?_
      rintro e w2 ⟨y, rfl, ⟨hy0, hy1⟩, hC2, hB2, hK2⟩
      have HC2 := Aside0.mk hC2
      have HB2 := Aside0.mk hB2
      have HK2 := Aside0.mk (HK1.out.trans hK2 (.inl rfl))
      clear hC2 hB2 hK2 HC1 HB1 HK1
      go_wp2
      go_ret
      exact ⟨_, rfl, ⟨Int.emod_nonneg _ (by omega), fun _ => Int.emod_lt_of_pos _ (by omega), fun h => by omega⟩, HC2.out.up (by omega), HB2.out, HK2.out⟩
    · have b2 : decide (n > 200) = false := decide_eq_false h2
      go_wp2
      go_ret
      exact ⟨_, rfl, ⟨Int.emod_nonneg _ (by omega), fun _ => Int.emod_lt_of_pos _ (by omega), fun h => by omega⟩, HC1.out.up (by omega), HB1.out, HK1.out⟩
def DrawsBool (w0 w : World) (g N : Nat) (e : Ending) (w' : World) : Prop := ∃ r : Bool, e = .returned (.bool r) ∧ Cur w0 w' g N ∧ Below w0.heap.size w0 w' ∧ KeepBut w w' g none
set_option maxHeartbeats 2000000 in
theorem one_calls (w0 w : World) (g N : Nat) (n : Int) (hC : Cur w0 w g N) (hB : Below w0.heap.size w0 w) (hN : N ≤ 900000) :
    Calls Try.prog 46 #[.pointer (some ⟨g, 0, none⟩), .int .i64 n] w (DrawsBool w0 w g (N + 2)) := by
  have HC := Aside0.mk hC
  have HB := Aside0.mk hB
  clear hC hB
  go_enter Try.func46, Try.ntmps46
  go_wp2_with fail
  refine (pick_calls w0 _ g N n HC.out HB.out hN).mono ?_
  rintro e w1 ⟨x, rfl, _, hC1, hB1, hK1⟩
  have HC1 := Aside0.mk hC1
  have HB1 := Aside0.mk hB1
  have HK1 := Aside0.mk hK1
  clear hC1 hB1 hK1 HC HB
  go_wp2
  go_ret
  exact ⟨_, rfl, HC1.out, HB1.out, HK1.out⟩
theorem rd_mem' (l : List Int) (j : Int) (h0 : 0 ≤ j) (h : j < l.length) : rd l j ∈ l := by
  unfold rd
  rw [List.getD_eq_getElem?_getD, List.getElem?_eq_getElem (by omega), Option.getD_some]
  exact List.getElem_mem _
set_option maxHeartbeats 2000000 in
theorem among_calls (w0 w : World) (g N : Nat) (A : Option Addr) (l : List Int) (hC : Cur w0 w g N) (hB : Below w0.heap.size w0 w) (hN : N ≤ 900000) (hl : Kd.C (Kd.int .i64) w A l.length l) (hA : ∀ ad, A = some ad → ad.block ≠ g) (h0 : 0 < l.length) :
    Calls Try.prog 54 #[.pointer (some ⟨g, 0, none⟩), .slice A l.length l.length] w (DrawsInt (· ∈ l) w0 w g (N + 2)) := by
  have HC := Aside0.mk hC
  have HB := Aside0.mk hB
  have HL := Aside0.mk hl
  have HA := Aside0.mk hA
  have hmax := Kd.C_max hl
  clear hC hB hl hA
  go_enter Try.func54, Try.ntmps54
  go_wp2_with fail
  refine (pick_calls w0 _ g N l.length HC.out HB.out hN).mono ?_
  rintro e w1 ⟨x, rfl, ⟨hx0, hx1, _⟩, hC1, hB1, hK1⟩
  replace hx1 := hx1 (by omega)
  obtain ⟨ad, hAe, hx⟩ := Kd.at_int HL.out x hx0 hx1
  subst hAe
  have hm := rd_mem' l x hx0 hx1
  have hx2 := keep_cell hK1 hx (by rw [add_block]; exact HA.out ad rfl)
  have HC1 := Aside0.mk hC1
  have HB1 := Aside0.mk hB1
  have HK1 := Aside0.mk hK1
  generalize rd l x = y at hx hx2 hm
  have HM := Aside0.mk hm
  clear hC1 hB1 hK1 HC HB hx hm
  go_wp2
  go_ret
  exact ⟨_, rfl, HM.out, HC1.out, HB1.out, HK1.out⟩
theorem lit_C (W : World) (e : Nat) (l : List Int) (h1 : l.length ≤ 1000) : Kd.C (Kd.int .i64) (W.alloc (.cells (nums .i64 l).toArray e (0, 0))) (some ⟨W.heap.size, 0, none⟩) l.length l := by
  refine Kd.C_of_reads (d := (0 : Int)) ⟨rfl, by omega, fun _ => ⟨_, rfl, fun j hj => ?_⟩⟩
  rw [add_plain, blk_cell (blk_new W _) j, List.getD_eq_getElem?_getD, List.getElem?_eq_getElem hj, List.getElem?_toArray, nums, List.getElem?_map, List.getElem?_eq_getElem hj]
  rfl
theorem among_lit (w0 w : World) (g N e : Nat) (l : List Int) (hC : Cur w0 w g N) (hB : Below w0.heap.size w0 w) (hN : N ≤ 900000) (h0 : 0 < l.length) (h1 : l.length ≤ 1000) :
    Calls Try.prog 54 #[.pointer (some ⟨g, 0, none⟩), .slice (some ⟨w.heap.size, 0, none⟩) l.length l.length] (w.alloc (.cells (nums .i64 l).toArray e (0, 0))) (DrawsInt (· ∈ l) w0 w g (N + 2)) := by
  have hg : g < w.heap.size := by
    obtain ⟨A, c, l, at_, sd, hg, _⟩ := hC
    exact blk_lt hg
  have hC' : Cur w0 (w.alloc (.cells (nums .i64 l).toArray e (0, 0))) g N := by
    obtain ⟨A, c, l, at_, sd, hg, r⟩ := hC
    exact ⟨A, c, l, at_, sd, blk_alloc hg _, r⟩
  refine (among_calls w0 _ g N _ l hC' (below_alloc hB _) hN ?_ (fun ad h => by cases h; exact Nat.ne_of_gt hg) h0).mono ?_
  · exact lit_C w e l h1
  · rintro e w1 ⟨x, rfl, hm, hC1, hB1, hK1⟩
    exact ⟨x, rfl, hm, hC1, hB1, (keep_alloc (KeepBut.refl w g none) _).trans hK1 (.inl rfl)⟩
def starPs : List Int := [0, -1, 2, 3, 60, 61, 4611686018427387904]
def starSs : List Int := [0, 1, 2, 30, -1, 59, 60]
def StarDom (p s : Int) : Prop := (p ∈ starPs ∧ s ∈ starSs) ∨ (3 ≤ p ∧ p ≤ 14 ∧ 1 ≤ s ∧ s < p)
def DrawsStar (P : Int → Int → Prop) (w0 w : World) (g N : Nat) (e : Ending) (w' : World) : Prop := ∃ p s : Int, e = .returned (.agg #[.int .i64 p, .int .i64 s]) ∧ P p s ∧ Cur w0 w' g N ∧ Below w0.heap.size w0 w' ∧ KeepBut w w' g none
theorem blk_two {w : World} {g : Nat} {t : TypeId} {x y : Value} (h : w.heap[g]? = some (.cells #[x, y] t (0, 0))) (a b : Value) : ((w.setCell ⟨g, 0, none⟩ a).setCell ⟨g, 1, none⟩ b).heap[g]? = some (.cells #[a, b] t (0, 0)) := blk_put (blk_put h 0 a rfl) 1 b rfl
theorem Cur.lt {w0 w : World} {g N : Nat} (h : Cur w0 w g N) : g < w.heap.size := by
  obtain ⟨A, c, l, at_, sd, hg, _⟩ := h
  exact blk_lt hg
theorem Cur.alloc {w0 w : World} {g N : Nat} (h : Cur w0 w g N) (o : Obj) : Cur w0 (w.alloc o) g N := by
  obtain ⟨A, c, l, at_, sd, hg, r⟩ := h
  exact ⟨A, c, l, at_, sd, blk_alloc hg _, r⟩
theorem Cur.far {w0 w : World} {g N b j : Nat} (h : Cur w0 w g N) (hb : g ≠ b) (v : Value) : Cur w0 (w.setCell ⟨b, j, none⟩ v) g N := by
  obtain ⟨A, c, l, at_, sd, hg, r⟩ := h
  exact ⟨A, c, l, at_, sd, blk_far hg hb _, r⟩
theorem Cur.drewN {w0 w : World} {g N : Nat} (h : Cur w0 w g N) (n : Nat) : Cur w0 (w.drewN n) g N := h
theorem keep_box {w W : World} {g b : Nat} {o : Obj} (hk : KeepBut w W g none) (h : w.heap[b]? = some o) (hb : b ≠ g) : W.heap[b]? = some o := hk.blk h hb (by simp)
set_option maxHeartbeats 2000000 in
theorem sureStar_calls (w0 w : World) (g N : Nat) (hC : Cur w0 w g N) (hB : Below w0.heap.size w0 w) (hN : N ≤ 800000) :
    Calls Try.prog 65 #[.pointer (some ⟨g, 0, none⟩)] w (DrawsStar (fun p s => 3 ≤ p ∧ p ≤ 14 ∧ 1 ≤ s ∧ s < p) w0 w g (N + 4)) := by
  have HC := Aside0.mk hC
  have HB := Aside0.mk hB
  have hgb := Nat.ne_of_gt hC.lt
  have hsz := hB.size
  clear hC hB
  go_enter Try.func65, Try.ntmps65
  go_wp2_with fail
  refine (pick_calls w0 _ g N 12 (HC.out.alloc _) (below_alloc HB.out _) (by omega)).mono ?_
  rintro e w1 ⟨x, rfl, ⟨hx0, hx1, _⟩, hC1, hB1, hK1⟩
  replace hx1 := hx1 (by omega)
  have HC1 := Aside0.mk hC1
  have HB1 := Aside0.mk hB1
  have HK1 := Aside0.mk ((keep_alloc (KeepBut.refl w g none) _).trans hK1 (.inl rfl))
  have BK1 := Aside0.mk (keep_box hK1 (blk_new w _) hgb)
  clear hC1 hB1 hK1 HC HB
  go_wp2_with fail
  refine (pick_calls w0 _ g (N + 2) (3 + x - 1) HC1.out HB1.out (by omega)).mono ?_
  rintro e w2 ⟨y, rfl, ⟨hy0, hy1, _⟩, hC2, hB2, hK2⟩
  replace hy1 := hy1 (by omega)
  have HC2 := Aside0.mk hC2
  have HB2 := Aside0.mk hB2
  have HK2 := Aside0.mk (HK1.out.trans hK2 (.inl rfl))
  have BK2 := Aside0.mk (keep_box hK2 BK1.out hgb)
  clear hC2 hB2 hK2 HC1 HB1 HK1 BK1
  have hc0 : w2.cell? ⟨w.heap.size, 0, none⟩ = some (.int .i64 0) := (blk_cell BK2.out 0).trans rfl
  have hc1 : w2.cell? ⟨w.heap.size, 1, none⟩ = some (.int .i64 0) := (blk_cell BK2.out 1).trans rfl
  have hf0 := blk_frozen BK2.out 0
  have hf1 := blk_frozen BK2.out 1
  go_wp2
  refine bodyPost_ret (results_cell_row rfl _ _ w.heap.size 25 #[.int .i64 (3 + x), .int .i64 (1 + y)] (0, 0) _ rfl (blk_two BK2.out _ _) Try.underlying25 rfl (by kernel_rfl)) rfl ?_
  exact ⟨_, _, rfl, by omega, (HC2.out.far hgb.symm _).far hgb.symm _, below_set (below_set HB2.out (by have := HB2.out.size; omega)) (by omega), keep_far (keep_far HK2.out (Nat.le_refl _) _) (Nat.le_refl _) _⟩
set_option maxHeartbeats 2000000 in
theorem star_calls (w0 w : World) (g N : Nat) (hC : Cur w0 w g N) (hB : Below w0.heap.size w0 w) (hN : N ≤ 700000) :
    Calls Try.prog 39 #[.pointer (some ⟨g, 0, none⟩)] w (DrawsStar StarDom w0 w g (N + 6)) := by
  have HC := Aside0.mk hC
  have HB := Aside0.mk hB
  have hgb := Nat.ne_of_gt hC.lt
  have hsz := hB.size
  clear hC hB
  go_enter Try.func39, Try.ntmps39
  go_wp2_with fail
  refine (one_calls w0 _ g N 12 (HC.out.alloc _) (below_alloc HB.out _) (by omega)).mono ?_
  rintro e w1 ⟨z, rfl, hC1, hB1, hK1⟩
  have HC1 := Aside0.mk hC1
  have HB1 := Aside0.mk hB1
  have HK1 := Aside0.mk ((keep_alloc (KeepBut.refl w g none) _).trans hK1 (.inl rfl))
  have BK1 := Aside0.mk (keep_box hK1 (blk_new w _) hgb)
  clear hC1 hB1 hK1 HC HB
  cases z with
  | true =>
    go_wp2_with fail
    refine (among_lit w0 w1 g (N + 2) 3 starPs HC1.out HB1.out (by omega) (by decide) (by decide)).mono ?_
    rintro e w2 ⟨x, rfl, hx, hC2, hB2, hK2⟩
    have HC2 := Aside0.mk hC2
    have HB2 := Aside0.mk hB2
    have HX := Aside0.mk hx
    have HK2 := Aside0.mk (HK1.out.trans hK2 (.inl rfl))
    have BK2 := Aside0.mk (keep_box hK2 BK1.out hgb)
    clear hC2 hB2 hK2 hx HC1 HB1 HK1 BK1
    go_wp2_with fail
    refine (among_lit w0 w2 g (N + 4) 3 starSs HC2.out HB2.out (by omega) (by decide) (by decide)).mono ?_
    rintro e w3 ⟨y, rfl, hy, hC3, hB3, hK3⟩
    have HC3 := Aside0.mk hC3
    have HB3 := Aside0.mk hB3
    have HY := Aside0.mk hy
    have HK3 := Aside0.mk (HK2.out.trans hK3 (.inl rfl))
    have BK3 := Aside0.mk (keep_box hK3 BK2.out hgb)
    clear hC3 hB3 hK3 hy HC2 HB2 HK2 BK2
    have hc0 : w3.cell? ⟨w.heap.size, 0, none⟩ = some (.int .i64 0) := (blk_cell BK3.out 0).trans rfl
    have hc1 : w3.cell? ⟨w.heap.size, 1, none⟩ = some (.int .i64 0) := (blk_cell BK3.out 1).trans rfl
    have hf0 := blk_frozen BK3.out 0
    have hf1 := blk_frozen BK3.out 1
    go_wp2
    refine bodyPost_ret (results_cell_row rfl _ _ w.heap.size 25 #[.int .i64 x, .int .i64 y] (0, 0) _ rfl (blk_two BK3.out _ _) Try.underlying25 rfl (by kernel_rfl)) rfl ?_
    exact ⟨_, _, rfl, .inl ⟨HX.out, HY.out⟩, (HC3.out.far hgb.symm _).far hgb.symm _, below_set (below_set HB3.out (by omega)) (by omega), keep_far (keep_far HK3.out (Nat.le_refl _) _) (Nat.le_refl _) _⟩
  | false =>
    go_wp2_with fail
    refine (sureStar_calls w0 _ g (N + 2) HC1.out HB1.out (by omega)).mono ?_
    rintro e w2 ⟨x, y, rfl, hxy, hC2, hB2, hK2⟩
    have HC2 := Aside0.mk hC2
    have HB2 := Aside0.mk hB2
    have HX := Aside0.mk hxy
    have HK2 := Aside0.mk (HK1.out.trans hK2 (.inl rfl))
    have BK2 := Aside0.mk (keep_box hK2 BK1.out hgb)
    clear hC2 hB2 hK2 hxy HC1 HB1 HK1 BK1
    have hc0 : w2.cell? ⟨w.heap.size, 0, none⟩ = some (.int .i64 0) := (blk_cell BK2.out 0).trans rfl
    have hc1 : w2.cell? ⟨w.heap.size, 1, none⟩ = some (.int .i64 0) := (blk_cell BK2.out 1).trans rfl
    have hf0 := blk_frozen BK2.out 0
    have hf1 := blk_frozen BK2.out 1
    go_wp2
    refine bodyPost_ret (results_cell_row rfl _ _ w.heap.size 25 #[.int .i64 x, .int .i64 y] (0, 0) _ rfl (blk_two BK2.out _ _) Try.underlying25 rfl (by kernel_rfl)) rfl ?_
    exact ⟨_, _, rfl, .inr HX.out, (HC2.out.far hgb.symm _).far hgb.symm _, below_set (below_set HB2.out (by omega)) (by omega), keep_far (keep_far HK2.out (Nat.le_refl _) _) (Nat.le_refl _) _⟩
end Go.Proofs.Ytnjocighalandaa.X
end
section
namespace Go.Proofs.Ytnjocighalandaa.X
open Go.RowKit Go.Proofs.YtnjocighalandaaW.PrintWords Go.Proofs.YtnjocighalandaaW.PrintLast Go.Proofs.YtnjocighalandaaW.PrintMore
attribute [local go_sem] max2_int min2_int max_two min_two max_three min_three max_four min_four
set_option linter.unusedVariables false
set_option linter.unusedSimpArgs false
def goodB (p s : Int) : Bool := decide (3 ≤ p ∧ p ≤ 60 ∧ 1 ≤ s ∧ s ≤ p - 1)
theorem srGood_calls (p s : Int) (w : World) : Calls Try.prog 33 #[.agg #[.int .i64 p, .int .i64 s]] w fun e w' => e = .returned (.bool (goodB p s)) ∧ Below w.heap.size w w' := by
  have h : spec_srGood.f p s = some (goodB p s) := by
    unfold spec_srGood.f spec_srPoints.f spec_l1In.f goodB
    by_cases h1 : p ≥ 3
    · by_cases h2 : p ≤ 60
      · rw [if_pos h1, Option.bind_some, Option.bind_some, if_pos (by simpa using h2)]
        have hw : wrap64 (p - 1) = p - 1 := by unfold wrap64; omega
        rw [hw]
        by_cases h3 : s ≥ 1
        · rw [if_pos h3]
          simp only [Option.bind_some, Option.some.injEq, decide_eq_decide]
          omega
        · rw [if_neg h3]
          simp only [Option.bind_some, Option.some.injEq]
          exact (decide_eq_false (by omega)).symm
      · rw [if_pos h1, Option.bind_some, Option.bind_some, if_neg (by simpa using h2)]
        exact congrArg some (decide_eq_false (by omega)).symm
    · rw [if_neg h1, Option.bind_some, Option.bind_some, if_neg (by simp)]
      exact congrArg some (decide_eq_false (by omega)).symm
  exact spec_srGood.calls p s _ w h
def PtDom (p s x : Int) : Prop := x ∈ [-1, 0, 1, p, 4611686018427387904] ∨ (goodB p s = true ∧ 0 ≤ x ∧ x < p)
def DrawsPointed (w0 w : World) (g N : Nat) (e : Ending) (w' : World) : Prop := ∃ p s x : Int, e = .returned (.tuple #[.agg #[.int .i64 p, .int .i64 s], .int .i64 x]) ∧ StarDom p s ∧ PtDom p s x ∧ Cur w0 w' g N ∧ Below w0.heap.size w0 w' ∧ KeepBut w w' g none
theorem Cur.drew {w0 w : World} {g N : Nat} (h : Cur w0 w g N) : Cur w0 w.drew g N := h
theorem keep_below {w W w1 : World} {g : Nat} (h : KeepBut w W g none) (hb : Below W.heap.size W w1) : KeepBut w w1 g none := h.trans (KeepBut.of_below hb g none) (.inl rfl)
theorem Cur.below {w0 w w1 : World} {g N : Nat} (h : Cur w0 w g N) (hb : Below w.heap.size w w1) : Cur w0 w1 g N := by
  obtain ⟨A, c, l, at_, sd, hg, r⟩ := h
  exact ⟨A, c, l, at_, sd, blk_below hg hb, r⟩
theorem StarDom.wf {p s : Int} (h : StarDom p s) : -9223372036854775808 ≤ p ∧ p ≤ 4611686018427387904 ∧ -1 ≤ p := by
  rcases h with ⟨h, _⟩ | h
  · simp only [starPs, List.mem_cons, List.not_mem_nil, or_false] at h
    omega
  · omega
set_option maxHeartbeats 4000000 in
set_option maxRecDepth 100000 in
theorem pointed_calls (w0 w : World) (g N : Nat) (hC : Cur w0 w g N) (hB : Below w0.heap.size w0 w) (hN : N ≤ 600000) :
    Calls Try.prog 67 #[.pointer (some ⟨g, 0, none⟩)] w (DrawsPointed w0 w g (N + 10)) := by
  have HC := Aside0.mk hC
  have HB := Aside0.mk hB
  have hgb := Nat.ne_of_gt hC.lt
  have hsz := hB.size
  clear hC hB
  go_enter Try.func67, Try.ntmps67
  go_wp2_with fail
  refine (star_calls w0 _ g N (HC.out.alloc _) (below_alloc HB.out _) (by omega)).mono ?_
  rintro e w1 ⟨p, s, rfl, hd, hC1, hB1, hK1⟩
  have HC1 := Aside0.mk hC1
  have HB1 := Aside0.mk hB1
  have HD := Aside0.mk hd
  have HK1 := Aside0.mk ((keep_alloc (KeepBut.refl w g none) _).trans hK1 (.inl rfl))
  have BK1 := Aside0.mk (keep_box hK1 (blk_new w _) hgb)
  have hgb1 := Nat.ne_of_gt hC1.lt
  have hs1 : w.heap.size < w1.heap.size := blk_lt BK1.out
  clear hC1 hB1 hK1 HC HB hd
  have hc0 : (w1.alloc (.cells #[.int .i64 p, .int .i64 s] 25 (0, 0))).cell? ⟨w1.heap.size, 0, none⟩ = some (.int .i64 p) := (blk_cell (blk_new w1 _) 0).trans rfl
  go_wp2_with fail
  refine (srGood_calls p s _).mono ?_
  rintro e w2 ⟨rfl, hb⟩
  have BK2 := Aside0.mk (blk_below (blk_alloc BK1.out _) hb)
  have BS2 := Aside0.mk (blk_below (blk_new w1 (.cells #[.int .i64 p, .int .i64 s] 25 (0, 0))) hb)
  have HC2 := Aside0.mk ((HC1.out.alloc _).below hb)
  have HB2 := Aside0.mk (below_step (below_alloc HB1.out _) hb)
  have HK2 := Aside0.mk (keep_below (keep_alloc HK1.out _) hb)
  clear hb BK1 HC1 HB1 HK1 hc0
  have HP := StarDom.wf HD.out
  cases hG : goodB p s with
  | false =>
    have HG := Aside0.mk hG
    clear hG
    have hc0 : w2.cell? ⟨w1.heap.size, 0, none⟩ = some (.int .i64 p) := (blk_cell BS2.out 0).trans rfl
    have hc1 : w2.cell? ⟨w1.heap.size, 1, none⟩ = some (.int .i64 s) := (blk_cell BS2.out 1).trans rfl
    have mixed : Try.prog.follows Departure.mixedOrders = true := by kernel_rfl
    go_wp2_with fail
    refine start_ (n := 8) (S := fun w' => w'.cell? ⟨w1.heap.size, 0, none⟩ = some (.int .i64 p) ∧ w'.cell? ⟨w1.heap.size, 1, none⟩ = some (.int .i64 s)) (ds := [6]) #[false, false, false, false, false, false, false, false] (by kernel_rfl) rfl rfl ⟨(blk_cell BS2.out 0), (blk_cell BS2.out 1)⟩ (fun hHeld => ?_)
    refine pure_ (i := 1) (N := some 15) (v := ?_) (a' := ?_) #[false, true, false, false, false, false, false, false] rfl rfl (by kernel_rfl) (fun _ _ _ h => h) (Or.inl ⟨by rfl, ?_⟩) ?_ ?_
    rotate_left
    · intro w'
      go_simp
      with_reducible rfl
    rotate_left
    · simp only [Act.put, List.setIfInBounds_toArray, List.set_cons_zero, List.set_cons_succ, i64_w, i32_w]
      rfl
    refine pure_ (i := 2) (N := some 16) (v := ?_) (a' := ?_) #[false, true, true, false, false, false, false, false] rfl rfl (by kernel_rfl) (fun _ _ _ h => h) (Or.inl ⟨by rfl, ?_⟩) ?_ ?_
    rotate_left
    · intro w'
      go_simp
      with_reducible rfl
    rotate_left
    · simp only [Act.put, List.setIfInBounds_toArray, List.set_cons_zero, List.set_cons_succ, i64_w, i32_w]
      rfl
    refine take_ (i := 0) (N := some 14) (v := ?_) (a' := ?_) #[true, true, true, false, false, false, false, false] rfl rfl (by kernel_rfl) (fun _ _ _ h => h) (Or.inl ⟨by rfl, ?_⟩) hHeld ?_ ?_
    rotate_left
    · rintro w' ⟨s0, s1⟩
      go_simp
      with_reducible rfl
    rotate_left
    · simp only [Act.put, List.setIfInBounds_toArray, List.set_cons_zero, List.set_cons_succ, i64_w, i32_w]
      rfl
    refine take_ (i := 3) (N := some 17) (v := ?_) (a' := ?_) #[true, true, true, true, false, false, false, false] rfl rfl (by kernel_rfl) (fun _ _ _ h => h) (Or.inl ⟨by rfl, ?_⟩) hHeld ?_ ?_
    rotate_left
    · rintro w' ⟨s0, s1⟩
      go_simp
      with_reducible rfl
    rotate_left
    · simp only [Act.put, List.setIfInBounds_toArray, List.set_cons_zero, List.set_cons_succ, i64_w, i32_w]
      rfl
    refine one_ (i := 4) (N := some 18) #[true, true, true, true, true, false, false, false] rfl rfl (by kernel_rfl) (by decide) (fun K hK => ?_)
    refine value_ (w1 := ?_) (v := ?_) (by rfl) rfl ?_ ?_
    rotate_left 2
    · go_simp
      constructor
      · rfl
      · rfl
    refine hK.out _ _ ⟨(blk_cell (blk_alloc (blk_drew BS2.out) _) 0), (blk_cell (blk_alloc (blk_drew BS2.out) _) 1)⟩ (fun hHeld => ?_)
    clear hK K
    refine norm_ (a' := ?_) ?_ ?_
    rotate_left
    · show Act.put _ (some 18) _ = _
      simp only [Act.put, List.setIfInBounds_toArray, List.set_cons_zero, List.set_cons_succ, i64_w, i32_w]
      rfl
    refine one_ (i := 5) (N := some 19) #[true, true, true, true, true, true, false, false] rfl rfl (by kernel_rfl) (by decide) (fun K hK => ?_)
    refine goes_ Try.func54 (by kernel_rfl) rfl #[.pointer (some ⟨g, 0, none⟩), .slice (some ⟨w2.drew.heap.size, 0, none⟩) 5 5] (by rfl) rfl rfl (by simp only [List.map_toArray, List.map_cons, List.map_nil]; rfl) ?_
    refine (among_lit w0 w2.drew g (N + 6) 3 [-1, 0, 1, p, 4611686018427387904] (HC2.out.drew.up (by omega)) (below_drew HB2.out) (by omega) (by simp) (by simp)).mono ?_
    rintro e w4 ⟨x, rfl, hx, hC4, hB4, hK4⟩
    refine ⟨_, rfl, ?_⟩
    have BK4 := Aside0.mk (keep_box hK4 (blk_drew BK2.out) hgb)
    have BS4 := Aside0.mk (keep_box hK4 (blk_drew BS2.out) hgb1)
    have HX := Aside0.mk hx
    have HC4 := Aside0.mk hC4
    have HB4 := Aside0.mk hB4
    have HK4 := Aside0.mk ((keep_drew HK2.out).trans hK4 (.inl rfl))
    clear hx hC4 hB4 hK4
    refine hK.out _ _ ⟨(blk_cell BS4.out 0), (blk_cell BS4.out 1)⟩ (fun hHeld => ?_)
    clear hK K
    refine norm_ (a' := ?_) ?_ ?_
    rotate_left
    · show Act.put _ (some 19) _ = _
      simp only [Act.put, List.setIfInBounds_toArray, List.set_cons_zero, List.set_cons_succ, i64_w, i32_w]
      rfl
    refine last_ (i := 6) (N := none) #[true, true, true, true, true, true, true, false] rfl rfl (by kernel_rfl) (by decide) (fun K hK => ?_)
    have k0 : w4.cell? ⟨w.heap.size, 0, none⟩ = some (.int .i64 0) := (blk_cell BK4.out 0).trans rfl
    have k1 : w4.cell? ⟨w.heap.size, 1, none⟩ = some (.int .i64 0) := (blk_cell BK4.out 1).trans rfl
    have f0 := blk_frozen BK4.out 0
    have f1 := blk_frozen BK4.out 1
    refine skip_ (w1 := ?_) (by rfl) rfl ?_ ?_
    rotate_left
    · go_simp
      rfl
    refine hK.out _ _ ?_
    clear hK K
    refine pure_ (i := 7) (N := some 3) (v := ?_) (a' := ?_) #[true, true, true, true, true, true, true, true] rfl rfl (by kernel_rfl) (fun _ _ _ h => h) (Or.inl ⟨by rfl, ?_⟩) ?_ ?_
    rotate_left
    · intro w'
      go_simp
      with_reducible rfl
    rotate_left
    · simp only [Act.put, List.setIfInBounds_toArray, List.set_cons_zero, List.set_cons_succ, i64_w, i32_w]
      rfl
    refine done_ (by kernel_rfl) ?_
    all_goals go_wp2
    all_goals (refine bodyPost_ret (results_ct rfl _ _ w.heap.size 25 #[.int .i64 p, .int .i64 s] (0, 0) _ rfl (blk_two BK4.out _ _) Try.underlying25 rfl (by kernel_rfl)) rfl ?_)
    all_goals exact ⟨_, _, _, rfl, HD.out, .inl HX.out, ((HC4.out.far hgb.symm _).far hgb.symm _).up (by omega), below_set (below_set HB4.out (by omega)) (by omega), keep_far (keep_far HK4.out (Nat.le_refl _) _) (Nat.le_refl _) _⟩
  | true =>
    have HG := Aside0.mk hG
    clear hG
    go_wp2_with fail
    refine (one_calls w0 _ g (N + 6) 14 HC2.out HB2.out (by omega)).mono ?_
    rintro e w3 ⟨z, rfl, hC3, hB3, hK3⟩
    have HC3 := Aside0.mk hC3
    have HB3 := Aside0.mk hB3
    have HK3 := Aside0.mk (HK2.out.trans hK3 (.inl rfl))
    have BK3 := Aside0.mk (keep_box hK3 BK2.out hgb)
    have BS3 := Aside0.mk (keep_box hK3 BS2.out hgb1)
    clear hC3 hB3 hK3 HC2 HB2 HK2 BK2 BS2
    cases z with
    | true =>
      have hc0 : w3.cell? ⟨w1.heap.size, 0, none⟩ = some (.int .i64 p) := (blk_cell BS3.out 0).trans rfl
      have hc1 : w3.cell? ⟨w1.heap.size, 1, none⟩ = some (.int .i64 s) := (blk_cell BS3.out 1).trans rfl
      have mixed : Try.prog.follows Departure.mixedOrders = true := by kernel_rfl
      go_wp2_with fail
      refine start_ (n := 8) (S := fun w' => w'.cell? ⟨w1.heap.size, 0, none⟩ = some (.int .i64 p) ∧ w'.cell? ⟨w1.heap.size, 1, none⟩ = some (.int .i64 s)) (ds := [6]) #[false, false, false, false, false, false, false, false] (by kernel_rfl) rfl rfl ⟨(blk_cell BS3.out 0), (blk_cell BS3.out 1)⟩ (fun hHeld => ?_)
      refine pure_ (i := 1) (N := some 15) (v := ?_) (a' := ?_) #[false, true, false, false, false, false, false, false] rfl rfl (by kernel_rfl) (fun _ _ _ h => h) (Or.inl ⟨by rfl, ?_⟩) ?_ ?_
      rotate_left
      · intro w'
        go_simp
        with_reducible rfl
      rotate_left
      · simp only [Act.put, List.setIfInBounds_toArray, List.set_cons_zero, List.set_cons_succ, i64_w, i32_w]
        rfl
      refine pure_ (i := 2) (N := some 16) (v := ?_) (a' := ?_) #[false, true, true, false, false, false, false, false] rfl rfl (by kernel_rfl) (fun _ _ _ h => h) (Or.inl ⟨by rfl, ?_⟩) ?_ ?_
      rotate_left
      · intro w'
        go_simp
        with_reducible rfl
      rotate_left
      · simp only [Act.put, List.setIfInBounds_toArray, List.set_cons_zero, List.set_cons_succ, i64_w, i32_w]
        rfl
      refine take_ (i := 0) (N := some 14) (v := ?_) (a' := ?_) #[true, true, true, false, false, false, false, false] rfl rfl (by kernel_rfl) (fun _ _ _ h => h) (Or.inl ⟨by rfl, ?_⟩) hHeld ?_ ?_
      rotate_left
      · rintro w' ⟨s0, s1⟩
        go_simp
        with_reducible rfl
      rotate_left
      · simp only [Act.put, List.setIfInBounds_toArray, List.set_cons_zero, List.set_cons_succ, i64_w, i32_w]
        rfl
      refine take_ (i := 3) (N := some 17) (v := ?_) (a' := ?_) #[true, true, true, true, false, false, false, false] rfl rfl (by kernel_rfl) (fun _ _ _ h => h) (Or.inl ⟨by rfl, ?_⟩) hHeld ?_ ?_
      rotate_left
      · rintro w' ⟨s0, s1⟩
        go_simp
        with_reducible rfl
      rotate_left
      · simp only [Act.put, List.setIfInBounds_toArray, List.set_cons_zero, List.set_cons_succ, i64_w, i32_w]
        rfl
      refine one_ (i := 4) (N := some 18) #[true, true, true, true, true, false, false, false] rfl rfl (by kernel_rfl) (by decide) (fun K hK => ?_)
      refine value_ (w1 := ?_) (v := ?_) (by rfl) rfl ?_ ?_
      rotate_left 2
      · go_simp
        constructor
        · rfl
        · rfl
      refine hK.out _ _ ⟨(blk_cell (blk_alloc (blk_drew BS3.out) _) 0), (blk_cell (blk_alloc (blk_drew BS3.out) _) 1)⟩ (fun hHeld => ?_)
      clear hK K
      refine norm_ (a' := ?_) ?_ ?_
      rotate_left
      · show Act.put _ (some 18) _ = _
        simp only [Act.put, List.setIfInBounds_toArray, List.set_cons_zero, List.set_cons_succ, i64_w, i32_w]
        rfl
      refine one_ (i := 5) (N := some 19) #[true, true, true, true, true, true, false, false] rfl rfl (by kernel_rfl) (by decide) (fun K hK => ?_)
      refine goes_ Try.func54 (by kernel_rfl) rfl #[.pointer (some ⟨g, 0, none⟩), .slice (some ⟨w3.drew.heap.size, 0, none⟩) 5 5] (by rfl) rfl rfl (by simp only [List.map_toArray, List.map_cons, List.map_nil]; rfl) ?_
      refine (among_lit w0 w3.drew g (N + 8) 3 [-1, 0, 1, p, 4611686018427387904] (HC3.out.drew.up (by omega)) (below_drew HB3.out) (by omega) (by simp) (by simp)).mono ?_
      rintro e w4 ⟨x, rfl, hx, hC4, hB4, hK4⟩
      refine ⟨_, rfl, ?_⟩
      have BK4 := Aside0.mk (keep_box hK4 (blk_drew BK3.out) hgb)
      have BS4 := Aside0.mk (keep_box hK4 (blk_drew BS3.out) hgb1)
      have HX := Aside0.mk hx
      have HC4 := Aside0.mk hC4
      have HB4 := Aside0.mk hB4
      have HK4 := Aside0.mk ((keep_drew HK3.out).trans hK4 (.inl rfl))
      clear hx hC4 hB4 hK4
      refine hK.out _ _ ⟨(blk_cell BS4.out 0), (blk_cell BS4.out 1)⟩ (fun hHeld => ?_)
      clear hK K
      refine norm_ (a' := ?_) ?_ ?_
      rotate_left
      · show Act.put _ (some 19) _ = _
        simp only [Act.put, List.setIfInBounds_toArray, List.set_cons_zero, List.set_cons_succ, i64_w, i32_w]
        rfl
      refine last_ (i := 6) (N := none) #[true, true, true, true, true, true, true, false] rfl rfl (by kernel_rfl) (by decide) (fun K hK => ?_)
      have k0 : w4.cell? ⟨w.heap.size, 0, none⟩ = some (.int .i64 0) := (blk_cell BK4.out 0).trans rfl
      have k1 : w4.cell? ⟨w.heap.size, 1, none⟩ = some (.int .i64 0) := (blk_cell BK4.out 1).trans rfl
      have f0 := blk_frozen BK4.out 0
      have f1 := blk_frozen BK4.out 1
      refine skip_ (w1 := ?_) (by rfl) rfl ?_ ?_
      rotate_left
      · go_simp
        rfl
      refine hK.out _ _ ?_
      clear hK K
      refine pure_ (i := 7) (N := some 3) (v := ?_) (a' := ?_) #[true, true, true, true, true, true, true, true] rfl rfl (by kernel_rfl) (fun _ _ _ h => h) (Or.inl ⟨by rfl, ?_⟩) ?_ ?_
      rotate_left
      · intro w'
        go_simp
        with_reducible rfl
      rotate_left
      · simp only [Act.put, List.setIfInBounds_toArray, List.set_cons_zero, List.set_cons_succ, i64_w, i32_w]
        rfl
      refine done_ (by kernel_rfl) ?_
      all_goals go_wp2
      all_goals (refine bodyPost_ret (results_ct rfl _ _ w.heap.size 25 #[.int .i64 p, .int .i64 s] (0, 0) _ rfl (blk_two BK4.out _ _) Try.underlying25 rfl (by kernel_rfl)) rfl ?_)
      all_goals exact ⟨_, _, _, rfl, HD.out, .inl HX.out, ((HC4.out.far hgb.symm _).far hgb.symm _).up (by omega), below_set (below_set HB4.out (by omega)) (by omega), keep_far (keep_far HK4.out (Nat.le_refl _) _) (Nat.le_refl _) _⟩
    | false =>
      have hc0 : w3.cell? ⟨w1.heap.size, 0, none⟩ = some (.int .i64 p) := (blk_cell BS3.out 0).trans rfl
      have hc1 : w3.cell? ⟨w1.heap.size, 1, none⟩ = some (.int .i64 s) := (blk_cell BS3.out 1).trans rfl
      have mixed : Try.prog.follows Departure.mixedOrders = true := by kernel_rfl
      go_wp2_with fail
      go_region_with_o (go_at_call 47; refine (pick_calls w0 w3.drew g (N + 8) p HC3.out (below_drew HB3.out) (by omega)).mono ?_; rintro e w4 ⟨x, rfl, hx, hC4, hB4, hK4⟩; have BK4 := Aside0.mk (keep_box hK4 (blk_drew BK3.out) hgb); have BS4 := Aside0.mk (keep_box hK4 (blk_drew BS3.out) hgb1); have HX := Aside0.mk hx; have HC4 := Aside0.mk hC4; have HB4 := Aside0.mk hB4; have HK4 := Aside0.mk ((keep_drew HK3.out).trans hK4 (.inl rfl)); clear hx hC4 hB4 hK4; have d0 : w4.cell? ⟨w1.heap.size, 0, none⟩ = some (.int .i64 p) := (blk_cell BS4.out 0).trans rfl; have d1 : w4.cell? ⟨w1.heap.size, 1, none⟩ = some (.int .i64 s) := (blk_cell BS4.out 1).trans rfl; have k0 : w4.cell? ⟨w.heap.size, 0, none⟩ = some (.int .i64 0) := (blk_cell BK4.out 0).trans rfl; have k1 : w4.cell? ⟨w.heap.size, 1, none⟩ = some (.int .i64 0) := (blk_cell BK4.out 1).trans rfl; have f0 := blk_frozen BK4.out 0; have f1 := blk_frozen BK4.out 1)
      all_goals go_wp2
      all_goals (refine bodyPost_ret (results_ct rfl _ _ w.heap.size 25 #[.int .i64 p, .int .i64 s] (0, 0) _ rfl (blk_two BK4.out _ _) Try.underlying25 rfl (by kernel_rfl)) rfl ?_)
      all_goals exact ⟨_, _, _, rfl, HD.out, .inr ⟨HG.out, HX.out.1, HX.out.2.1 (by have := HG.out; unfold goodB at this; have := of_decide_eq_true this; omega)⟩, ((HC4.out.far hgb.symm _).far hgb.symm _).up (by omega), below_set (below_set HB4.out (by omega)) (by omega), keep_far (keep_far HK4.out (Nat.le_refl _) _) (Nat.le_refl _) _⟩
end Go.Proofs.Ytnjocighalandaa.X
end
section
namespace Go.Proofs.Ytnjocighalandaa.X
open Go.RowKit Go.Proofs.YtnjocighalandaaW.PrintWords Go.Proofs.YtnjocighalandaaW.PrintLast Go.Proofs.YtnjocighalandaaW.PrintMore
attribute [local go_sem] max2_int min2_int max_two min_two max_three min_three max_four min_four
set_option linter.unusedVariables false
set_option linter.unusedSimpArgs false
def ChordDom (n a b : Int) : Prop := (a ∈ [0, 1, -1, 2] ∧ b ∈ [0, 1, 2, n, 4611686018427387904]) ∨ (3 ≤ n ∧ n ≤ 60 ∧ 0 ≤ a ∧ a < b ∧ b < n)
def DrawsChord (n : Int) (w0 w : World) (g N : Nat) (e : Ending) (w' : World) : Prop := ∃ a b : Int, e = .returned (.agg #[.int .i64 a, .int .i64 b]) ∧ ChordDom n a b ∧ Cur w0 w' g N ∧ Below w0.heap.size w0 w' ∧ KeepBut w w' g none
theorem srPoints_calls (n : Int) (w : World) : Calls Try.prog 43 #[.int .i64 n] w fun e w' => e = .returned (.bool (decide (3 ≤ n ∧ n ≤ 60))) ∧ Drawn0 w w' := by
  refine spec_srPoints.calls n _ w ?_
  unfold spec_srPoints.f spec_l1In.f
  by_cases h1 : n ≥ 3
  · rw [if_pos h1, Option.bind_some, Option.some.injEq, decide_eq_decide]
    omega
  · rw [if_neg h1, Option.bind_some, Option.some.injEq]
    exact (decide_eq_false (by omega)).symm
theorem srChord_calls (a b : Int) (w : World) : Calls Try.prog 53 #[.int .i64 a, .int .i64 b] w fun e w' => e = .returned (.agg #[.int .i64 (min a b), .int .i64 (max a b)]) ∧ Below w.heap.size w w' := by
  refine spec_srChord.calls a b _ _ w ?_
  unfold spec_srChord.f spec_l1Least.f spec_l1Most.f
  by_cases h1 : a < b
  · rw [if_pos h1, if_neg (by omega), Option.bind_some, Option.bind_some, Int.min_eq_left (by omega), Int.max_eq_right (by omega)]
  · rw [if_neg h1, Option.bind_some]
    by_cases h2 : a > b
    · rw [if_pos h2, Option.bind_some, Int.min_eq_right (by omega), Int.max_eq_left (by omega)]
    · rw [if_neg h2, Option.bind_some, Int.min_eq_right (by omega), Int.max_eq_right (by omega)]
set_option maxHeartbeats 4000000 in
set_option maxRecDepth 100000 in
theorem chord_calls (w0 w : World) (g N : Nat) (n : Int) (hC : Cur w0 w g N) (hB : Below w0.heap.size w0 w) (hN : N ≤ 600000) (hn : n ≤ 4611686018427387904) (hn1 : -1 ≤ n) :
    Calls Try.prog 40 #[.pointer (some ⟨g, 0, none⟩), .int .i64 n] w (DrawsChord n w0 w g (N + 6)) := by
  have HC := Aside0.mk hC
  have HB := Aside0.mk hB
  have hgb := Nat.ne_of_gt hC.lt
  have hsz := hB.size
  clear hC hB
  obtain ⟨q, hq⟩ : ∃ q, decide (3 ≤ n ∧ n ≤ 60) = q := ⟨_, rfl⟩
  have HS := Aside0.mk (fun W => srPoints_calls n W)
  rw [hq] at HS
  have HQ := Aside0.mk hq
  clear hq
  go_enter Try.func40, Try.ntmps40
  go_wp2_with fail
  refine (HS.out _).mono ?_
  rintro e w1 ⟨rfl, ⟨⟨nd, rfl⟩⟩⟩
  have HC1 := Aside0.mk ((HC.out.alloc (.cells #[.int .i64 0, .int .i64 0] 34 (0, 0))).drewN nd)
  have HB1 := Aside0.mk (pw_below_drewN (below_alloc HB.out (.cells #[.int .i64 0, .int .i64 0] 34 (0, 0))) nd)
  have HK1 := Aside0.mk (keep_drewN (keep_alloc (KeepBut.refl w g none) (.cells #[.int .i64 0, .int .i64 0] 34 (0, 0))) nd)
  have BK1 := Aside0.mk (blk_drewN (blk_new w (.cells #[.int .i64 0, .int .i64 0] 34 (0, 0))) nd)
  generalize (w.alloc (.cells #[.int .i64 0, .int .i64 0] 34 (0, 0))).drewN nd = w1 at HC1 HB1 HK1 BK1 ⊢
  clear HC HB HS
  cases q with
  | false =>
    go_wp2_with fail
    refine (among_lit w0 w1 g N 3 [0, 1, -1, 2] (HC1.out.up (by omega)) HB1.out (by omega) (by simp) (by simp)).mono ?_
    rintro e w3 ⟨x, rfl, hx, hC3, hB3, hK3⟩
    have HC3 := Aside0.mk hC3
    have HB3 := Aside0.mk hB3
    have HX := Aside0.mk hx
    have HK3 := Aside0.mk (HK1.out.trans hK3 (.inl rfl))
    have BK3 := Aside0.mk (keep_box hK3 BK1.out hgb)
    clear hC3 hB3 hK3 hx
    go_wp2_with fail
    refine (among_lit w0 w3 g (N + 2) 3 [0, 1, 2, n, 4611686018427387904] (HC3.out.up (by omega)) HB3.out (by omega) (by simp) (by simp)).mono ?_
    rintro e w4 ⟨y, rfl, hy, hC4, hB4, hK4⟩
    have HC4 := Aside0.mk hC4
    have HB4 := Aside0.mk hB4
    have HY := Aside0.mk hy
    have HK4 := Aside0.mk (HK3.out.trans hK4 (.inl rfl))
    have BK4 := Aside0.mk (keep_box hK4 BK3.out hgb)
    clear hC4 hB4 hK4 hy HC3 HB3 HK3 BK3
    have k0 : w4.cell? ⟨w.heap.size, 0, none⟩ = some (.int .i64 0) := (blk_cell BK4.out 0).trans rfl
    have k1 : w4.cell? ⟨w.heap.size, 1, none⟩ = some (.int .i64 0) := (blk_cell BK4.out 1).trans rfl
    have f0 := blk_frozen BK4.out 0
    have f1 := blk_frozen BK4.out 1
    go_wp2
    refine bodyPost_ret (results_cell_row rfl _ _ w.heap.size 34 #[.int .i64 x, .int .i64 y] (0, 0) _ rfl (blk_two BK4.out _ _) Try.underlying34 rfl (by kernel_rfl)) rfl ?_
    exact ⟨_, _, rfl, .inl ⟨HX.out, HY.out⟩, ((HC4.out.far hgb.symm _).far hgb.symm _).up (by omega), below_set (below_set HB4.out (by omega)) (by omega), keep_far (keep_far HK4.out (Nat.le_refl _) _) (Nat.le_refl _) _⟩
  | true =>
    have hn3 := of_decide_eq_true HQ.out
    go_wp2_with fail
    refine (one_calls w0 _ g N 14 HC1.out HB1.out (by omega)).mono ?_
    rintro e w2 ⟨z, rfl, hC2, hB2, hK2⟩
    have HC2 := Aside0.mk hC2
    have HB2 := Aside0.mk hB2
    have HK2 := Aside0.mk (HK1.out.trans hK2 (.inl rfl))
    have BK2 := Aside0.mk (keep_box hK2 BK1.out hgb)
    clear hC2 hB2 hK2 HC1 HB1 HK1 BK1
    cases z with
    | true =>
      go_wp2_with fail
      refine (among_lit w0 w2 g (N + 2) 3 [0, 1, -1, 2] (HC2.out.up (by omega)) HB2.out (by omega) (by simp) (by simp)).mono ?_
      rintro e w3 ⟨x, rfl, hx, hC3, hB3, hK3⟩
      have HC3 := Aside0.mk hC3
      have HB3 := Aside0.mk hB3
      have HX := Aside0.mk hx
      have HK3 := Aside0.mk (HK2.out.trans hK3 (.inl rfl))
      have BK3 := Aside0.mk (keep_box hK3 BK2.out hgb)
      clear hC3 hB3 hK3 hx
      go_wp2_with fail
      refine (among_lit w0 w3 g ((N + 2) + 2) 3 [0, 1, 2, n, 4611686018427387904] (HC3.out.up (by omega)) HB3.out (by omega) (by simp) (by simp)).mono ?_
      rintro e w4 ⟨y, rfl, hy, hC4, hB4, hK4⟩
      have HC4 := Aside0.mk hC4
      have HB4 := Aside0.mk hB4
      have HY := Aside0.mk hy
      have HK4 := Aside0.mk (HK3.out.trans hK4 (.inl rfl))
      have BK4 := Aside0.mk (keep_box hK4 BK3.out hgb)
      clear hC4 hB4 hK4 hy HC3 HB3 HK3 BK3
      have k0 : w4.cell? ⟨w.heap.size, 0, none⟩ = some (.int .i64 0) := (blk_cell BK4.out 0).trans rfl
      have k1 : w4.cell? ⟨w.heap.size, 1, none⟩ = some (.int .i64 0) := (blk_cell BK4.out 1).trans rfl
      have f0 := blk_frozen BK4.out 0
      have f1 := blk_frozen BK4.out 1
      go_wp2
      refine bodyPost_ret (results_cell_row rfl _ _ w.heap.size 34 #[.int .i64 x, .int .i64 y] (0, 0) _ rfl (blk_two BK4.out _ _) Try.underlying34 rfl (by kernel_rfl)) rfl ?_
      exact ⟨_, _, rfl, .inl ⟨HX.out, HY.out⟩, ((HC4.out.far hgb.symm _).far hgb.symm _).up (by omega), below_set (below_set HB4.out (by omega)) (by omega), keep_far (keep_far HK4.out (Nat.le_refl _) _) (Nat.le_refl _) _⟩
    | false =>
      go_wp2_with fail
      refine (pick_calls w0 _ g (N + 2) n HC2.out HB2.out (by omega)).mono ?_
      rintro e w3 ⟨x, rfl, ⟨hx0, hx1, _⟩, hC3, hB3, hK3⟩
      replace hx1 := hx1 (by omega)
      have HC3 := Aside0.mk hC3
      have HB3 := Aside0.mk hB3
      have HK3 := Aside0.mk (HK2.out.trans hK3 (.inl rfl))
      have BK3 := Aside0.mk (keep_box hK3 BK2.out hgb)
      clear hC3 hB3 hK3 HC2 HB2 HK2 BK2
      go_wp2_with fail
      refine (pick_calls w0 _ g (N + 4) (n - 1) HC3.out HB3.out (by omega)).mono ?_
      rintro e w4 ⟨y, rfl, ⟨hy0, hy1, _⟩, hC4, hB4, hK4⟩
      replace hy1 := hy1 (by omega)
      have HC4 := Aside0.mk hC4
      have HB4 := Aside0.mk hB4
      have HK4 := Aside0.mk (HK3.out.trans hK4 (.inl rfl))
      have BK4 := Aside0.mk (keep_box hK4 BK3.out hgb)
      clear hC4 hB4 hK4 HC3 HB3 HK3 BK3
      by_cases hyx : y ≥ x
      · have b0 : decide (y ≥ x) = true := decide_eq_true hyx
        go_wp2_with fail
        refine (srChord_calls x (y + 1) _).mono ?_
        rintro e w5 ⟨rfl, hb5⟩
        have HC5 := Aside0.mk (HC4.out.below hb5)
        have HB5 := Aside0.mk (below_step HB4.out hb5)
        have HK5 := Aside0.mk (keep_below HK4.out hb5)
        have BK5 := Aside0.mk (blk_below BK4.out hb5)
        clear hb5 HC4 HB4 HK4 BK4
        have k0 : w5.cell? ⟨w.heap.size, 0, none⟩ = some (.int .i64 0) := (blk_cell BK5.out 0).trans rfl
        have k1 : w5.cell? ⟨w.heap.size, 1, none⟩ = some (.int .i64 0) := (blk_cell BK5.out 1).trans rfl
        have f0 := blk_frozen BK5.out 0
        have f1 := blk_frozen BK5.out 1
        generalize hmn : min x (y + 1) = mn
        generalize hmx : max x (y + 1) = mx
        have HMN := Aside0.mk hmn
        have HMX := Aside0.mk hmx
        clear hmn hmx
        go_wp2
        refine bodyPost_ret (results_cell_row rfl _ _ w.heap.size 34 #[.int .i64 mn, .int .i64 mx] (0, 0) _ rfl (blk_two BK5.out _ _) Try.underlying34 rfl (by kernel_rfl)) rfl ?_
        exact ⟨_, _, rfl, .inr (by have := HMN.out; have := HMX.out; omega), ((HC5.out.far hgb.symm _).far hgb.symm _).up (by omega), below_set (below_set HB5.out (by omega)) (by omega), keep_far (keep_far HK5.out (Nat.le_refl _) _) (Nat.le_refl _) _⟩
      · have b0 : decide (y ≥ x) = false := decide_eq_false hyx
        go_wp2_with fail
        refine (srChord_calls x y _).mono ?_
        rintro e w5 ⟨rfl, hb5⟩
        have HC5 := Aside0.mk (HC4.out.below hb5)
        have HB5 := Aside0.mk (below_step HB4.out hb5)
        have HK5 := Aside0.mk (keep_below HK4.out hb5)
        have BK5 := Aside0.mk (blk_below BK4.out hb5)
        clear hb5 HC4 HB4 HK4 BK4
        have k0 : w5.cell? ⟨w.heap.size, 0, none⟩ = some (.int .i64 0) := (blk_cell BK5.out 0).trans rfl
        have k1 : w5.cell? ⟨w.heap.size, 1, none⟩ = some (.int .i64 0) := (blk_cell BK5.out 1).trans rfl
        have f0 := blk_frozen BK5.out 0
        have f1 := blk_frozen BK5.out 1
        generalize hmn : min x y = mn
        generalize hmx : max x y = mx
        have HMN := Aside0.mk hmn
        have HMX := Aside0.mk hmx
        clear hmn hmx
        go_wp2
        refine bodyPost_ret (results_cell_row rfl _ _ w.heap.size 34 #[.int .i64 mn, .int .i64 mx] (0, 0) _ rfl (blk_two BK5.out _ _) Try.underlying34 rfl (by kernel_rfl)) rfl ?_
        exact ⟨_, _, rfl, .inr (by have := HMN.out; have := HMX.out; omega), ((HC5.out.far hgb.symm _).far hgb.symm _).up (by omega), below_set (below_set HB5.out (by omega)) (by omega), keep_far (keep_far HK5.out (Nat.le_refl _) _) (Nat.le_refl _) _⟩
end Go.Proofs.Ytnjocighalandaa.X
end
section
namespace Go.Proofs.Ytnjocighalandaa.X
open Go.RowKit Go.Proofs.YtnjocighalandaaW.PrintWords Go.Proofs.YtnjocighalandaaW.PrintLast Go.Proofs.YtnjocighalandaaW.PrintMore
attribute [local go_sem] max2_int min2_int max_two min_two max_three min_three max_four min_four
set_option linter.unusedVariables false
set_option linter.unusedSimpArgs false
def isBytes (l : List Int) : Prop := ∀ x ∈ l, 0 ≤ x ∧ x ≤ 255
theorem cur_new {w W : World} (hB : Below w.heap.size w W) {A : Option Addr} {c : Nat} {l : List Int} (hl : Kd.C (Kd.int .u8) w A l.length l) (hr : isBytes l) {g : Nat} (hs : W.heap.size = g) : Cur w (W.alloc (.cells #[.slice A l.length c, .int .i64 0, .int .u64 0] 61 (0, 0))) g 0 := by
  subst hs
  exact ⟨A, c, l, 0, 0, blk_new W _, hB.size, hl, fun i h0 h1 => hr _ (rd_mem' l i h0 h1), Int.le_refl _, Int.le_refl _⟩
theorem blk_at {w : World} {g b : Nat} {o : Obj} (h : w.heap[g]? = some o) (e : g = b) : w.heap[b]? = some o := e ▸ h
theorem below_one (w : World) (o : Obj) : Below w.heap.size w (w.alloc o) := below_alloc (Below.refl _ _) o
theorem below_two (w : World) (o o' : Obj) : Below w.heap.size w ((w.alloc o).alloc o') := below_alloc (below_one w o) o'
def TellsStar (P : Int → Int → Prop) (w : World) (e : Ending) (w' : World) : Prop := ∃ p s : Int, e = .returned (.agg #[.int .i64 p, .int .i64 s]) ∧ P p s ∧ Below w.heap.size w w'
set_option maxHeartbeats 2000000 in
theorem drawIsStar_calls (A : Option Addr) (c : Nat) (l : List Int) (w : World) (hl : Kd.C (Kd.int .u8) w A l.length l) (hr : isBytes l) :
    Calls Try.prog 30 #[.slice A l.length c] w (TellsStar StarDom w) := by
  have HL := Aside0.mk hl
  have HR := Aside0.mk hr
  clear hl hr
  go_enter Try.func30, Try.ntmps30
  go_wp2_with fail
  refine (star_calls w _ (w.heap.size + 1) 0 (cur_new (below_one w _) HL.out HR.out (by simp)) (below_two w _ _) (by omega)).mono ?_
  rintro e w1 ⟨p, s, rfl, hd, _, hB1, hK1⟩
  have HD := Aside0.mk hd
  have HB1 := Aside0.mk hB1
  have BK1 := Aside0.mk (keep_box hK1 (blk_alloc (blk_new w _) _) (by omega))
  clear hd hB1 hK1
  have k0 : w1.cell? ⟨w.heap.size, 0, none⟩ = some (.int .i64 0) := (blk_cell BK1.out 0).trans rfl
  have k1 : w1.cell? ⟨w.heap.size, 1, none⟩ = some (.int .i64 0) := (blk_cell BK1.out 1).trans rfl
  have f0 := blk_frozen BK1.out 0
  have f1 := blk_frozen BK1.out 1
  go_wp2
  refine bodyPost_ret (results_cell_row rfl _ _ w.heap.size 25 #[.int .i64 p, .int .i64 s] (0, 0) _ rfl (blk_two BK1.out _ _) Try.underlying25 rfl (by kernel_rfl)) rfl ?_
  exact ⟨_, _, rfl, HD.out, below_set (below_set HB1.out (Nat.le_refl _)) (Nat.le_refl _)⟩
set_option maxHeartbeats 2000000 in
theorem drawChordsOf_calls (A : Option Addr) (c : Nat) (l : List Int) (w : World) (hl : Kd.C (Kd.int .u8) w A l.length l) (hr : isBytes l) :
    Calls Try.prog 5 #[.slice A l.length c] w (TellsStar StarDom w) := by
  have HL := Aside0.mk hl
  have HR := Aside0.mk hr
  clear hl hr
  go_enter Try.func5, Try.ntmps5
  go_wp2_with fail
  refine (drawIsStar_calls A c l _ (Kd.C_below HL.out (below_one w _)) HR.out).mono ?_
  rintro e w1 ⟨p, s, rfl, hd, hb⟩
  have HD := Aside0.mk hd
  have HB1 := Aside0.mk (below_step (below_one w _) hb)
  have BK1 := Aside0.mk (blk_below (blk_new w _) hb)
  clear hd hb
  have k0 : w1.cell? ⟨w.heap.size, 0, none⟩ = some (.int .i64 0) := (blk_cell BK1.out 0).trans rfl
  have k1 : w1.cell? ⟨w.heap.size, 1, none⟩ = some (.int .i64 0) := (blk_cell BK1.out 1).trans rfl
  have f0 := blk_frozen BK1.out 0
  have f1 := blk_frozen BK1.out 1
  go_wp2
  refine bodyPost_ret (results_cell_row rfl _ _ w.heap.size 25 #[.int .i64 p, .int .i64 s] (0, 0) _ rfl (blk_two BK1.out _ _) Try.underlying25 rfl (by kernel_rfl)) rfl ?_
  exact ⟨_, _, rfl, HD.out, below_set (below_set HB1.out (Nat.le_refl _)) (Nat.le_refl _)⟩
def TellsPointed (w : World) (e : Ending) (w' : World) : Prop := ∃ p s x : Int, e = .returned (.tuple #[.agg #[.int .i64 p, .int .i64 s], .int .i64 x]) ∧ StarDom p s ∧ PtDom p s x ∧ Below w.heap.size w w'
set_option maxHeartbeats 2000000 in
theorem drawNextPoint_calls (A : Option Addr) (c : Nat) (l : List Int) (w : World) (hl : Kd.C (Kd.int .u8) w A l.length l) (hr : isBytes l) :
    Calls Try.prog 48 #[.slice A l.length c] w (TellsPointed w) := by
  have HL := Aside0.mk hl
  have HR := Aside0.mk hr
  clear hl hr
  go_enter Try.func48, Try.ntmps48
  go_wp2_with fail
  refine (pointed_calls w _ (w.heap.size + 1) 0 (cur_new (below_one w _) HL.out HR.out (by simp)) (below_two w _ _) (by omega)).mono ?_
  rintro e w1 ⟨p, s, x, rfl, hd, hx, _, hB1, hK1⟩
  have HD := Aside0.mk hd
  have HX := Aside0.mk hx
  have HB1 := Aside0.mk hB1
  have BK1 := Aside0.mk (keep_box hK1 (blk_alloc (blk_new w _) _) (by omega))
  clear hd hx hB1 hK1
  have k0 : w1.cell? ⟨w.heap.size, 0, none⟩ = some (.int .i64 0) := (blk_cell BK1.out 0).trans rfl
  have k1 : w1.cell? ⟨w.heap.size, 1, none⟩ = some (.int .i64 0) := (blk_cell BK1.out 1).trans rfl
  have f0 := blk_frozen BK1.out 0
  have f1 := blk_frozen BK1.out 1
  go_wp2
  refine bodyPost_ret (results_ct rfl _ _ w.heap.size 25 #[.int .i64 p, .int .i64 s] (0, 0) _ rfl (blk_two BK1.out _ _) Try.underlying25 rfl (by kernel_rfl)) rfl ?_
  exact ⟨_, _, _, rfl, HD.out, HX.out, below_set (below_set HB1.out (Nat.le_refl _)) (Nat.le_refl _)⟩
set_option maxHeartbeats 2000000 in
theorem drawTurnedStar_calls (A : Option Addr) (c : Nat) (l : List Int) (w : World) (hl : Kd.C (Kd.int .u8) w A l.length l) (hr : isBytes l) :
    Calls Try.prog 18 #[.slice A l.length c] w (TellsPointed w) := by
  have HL := Aside0.mk hl
  have HR := Aside0.mk hr
  clear hl hr
  go_enter Try.func18, Try.ntmps18
  go_wp2_with fail
  refine (drawNextPoint_calls A c l _ (Kd.C_below HL.out (below_one w _)) HR.out).mono ?_
  rintro e w1 ⟨p, s, x, rfl, hd, hx, hb⟩
  have HD := Aside0.mk hd
  have HX := Aside0.mk hx
  have HB1 := Aside0.mk (below_step (below_one w _) hb)
  have BK1 := Aside0.mk (blk_below (blk_new w _) hb)
  clear hd hx hb
  have k0 : w1.cell? ⟨w.heap.size, 0, none⟩ = some (.int .i64 0) := (blk_cell BK1.out 0).trans rfl
  have k1 : w1.cell? ⟨w.heap.size, 1, none⟩ = some (.int .i64 0) := (blk_cell BK1.out 1).trans rfl
  have f0 := blk_frozen BK1.out 0
  have f1 := blk_frozen BK1.out 1
  go_wp2
  refine bodyPost_ret (results_ct rfl _ _ w.heap.size 25 #[.int .i64 p, .int .i64 s] (0, 0) _ rfl (blk_two BK1.out _ _) Try.underlying25 rfl (by kernel_rfl)) rfl ?_
  exact ⟨_, _, _, rfl, HD.out, HX.out, below_set (below_set HB1.out (Nat.le_refl _)) (Nat.le_refl _)⟩
def starNs : List Int := [3, 4, 5, 6, 7, 8, 12, 60, 61, 2, 0, -1]
def TellsInt (P : Int → Prop) (w : World) (e : Ending) (w' : World) : Prop := ∃ n : Int, e = .returned (.int .i64 n) ∧ P n ∧ Below w.heap.size w w'
theorem among_at {w0 w : World} {g N e b : Nat} {l : List Int} (hs : w.heap.size = b) (hC : Cur w0 w g N) (hB : Below w0.heap.size w0 w) (hN : N ≤ 900000) (h0 : 0 < l.length) (h1 : l.length ≤ 1000) {n : Nat} (hn : l.length = n) {cs : Array Value} (hcs : (nums .i64 l).toArray = cs) :
    Calls Try.prog 54 #[.pointer (some ⟨g, 0, none⟩), .slice (some ⟨b, 0, none⟩) n n] (w.alloc (.cells cs e (0, 0))) (DrawsInt (· ∈ l) w0 w g (N + 2)) := by
  subst hs hn hcs
  exact among_lit w0 w g N e l hC hB hN h0 h1
set_option maxHeartbeats 2000000 in
set_option maxRecDepth 100000 in
theorem drawStarsOf_calls (A : Option Addr) (c : Nat) (l : List Int) (w : World) (hl : Kd.C (Kd.int .u8) w A l.length l) (hr : isBytes l) :
    Calls Try.prog 21 #[.slice A l.length c] w (TellsInt (· ∈ starNs) w) := by
  have HL := Aside0.mk hl
  have HR := Aside0.mk hr
  clear hl hr
  go_enter Try.func21, Try.ntmps21
  go_wp2_with fail
  refine (among_at (l := starNs) (by simp) (cur_new (Below.refl _ _) HL.out HR.out rfl) (below_one w _) (by omega) (by decide) (by decide) rfl rfl).mono ?_
  rintro e w1 ⟨n, rfl, hn, _, hB1, _⟩
  have HN := Aside0.mk hn
  have HB1 := Aside0.mk hB1
  clear hn hB1
  go_wp2
  go_ret
  exact ⟨_, rfl, HN.out, HB1.out⟩
end Go.Proofs.Ytnjocighalandaa.X
end
section
namespace Go.Proofs.Ytnjocighalandaa.X
open Go.RowKit Go.Proofs.YtnjocighalandaaW.PrintWords Go.Proofs.YtnjocighalandaaW.PrintLast Go.Proofs.YtnjocighalandaaW.PrintMore
attribute [local go_sem] max2_int min2_int max_two min_two max_three min_three max_four min_four
set_option linter.unusedVariables false
set_option linter.unusedSimpArgs false
def TellsTwo (w : World) (e : Ending) (w' : World) : Prop := ∃ p a b c d : Int, e = .returned (.tuple #[.int .i64 p, .agg #[.int .i64 a, .int .i64 b], .agg #[.int .i64 c, .int .i64 d]]) ∧ -1 ≤ p ∧ p ≤ 4611686018427387904 ∧ ChordDom p a b ∧ ChordDom p c d ∧ Below w.heap.size w w'
set_option maxHeartbeats 4000000 in
set_option maxRecDepth 100000 in
theorem drawAreCrossing_calls (A : Option Addr) (c : Nat) (l : List Int) (w : World) (hl : Kd.C (Kd.int .u8) w A l.length l) (hr : isBytes l) :
    Calls Try.prog 13 #[.slice A l.length c] w (TellsTwo w) := by
  have HL := Aside0.mk hl
  have HR := Aside0.mk hr
  clear hl hr
  go_enter Try.func13, Try.ntmps13
  go_wp2_with fail
  refine (star_calls w _ (w.heap.size + 2) 0 (cur_new (below_two w _ _) HL.out HR.out (by simp)) (below_alloc (below_two w _ _) _) (by omega)).mono ?_
  rintro e w1 ⟨p, s, rfl, hd, hC1, hB1, hK1⟩
  have HC1 := Aside0.mk hC1
  have HP := Aside0.mk (show 0 = 0 ∧ p ≤ 4611686018427387904 ∧ -1 ≤ p from ⟨rfl, by have := StarDom.wf hd; omega, by have := StarDom.wf hd; omega⟩)
  have HB1 := Aside0.mk hB1
  have B31 := Aside0.mk (keep_box hK1 (blk_alloc (blk_alloc (blk_new w _) _) _) (by omega))
  have B41 := Aside0.mk (keep_box hK1 (blk_alloc (blk_at (blk_new (w.alloc _) _) (b := w.heap.size + 1) (by simp)) _) (by omega))
  have hg1 := hC1.lt
  clear hC1 hB1 hK1 hd HL
  have hc0 : (w1.alloc (.cells #[.int .i64 p, .int .i64 s] 25 (0, 0))).cell? ⟨w1.heap.size, 0, none⟩ = some (.int .i64 p) := (blk_cell (blk_new w1 _) 0).trans rfl
  go_wp2_with fail
  clear hc0
  refine (chord_calls w (w1.alloc _) (w.heap.size + 1 + 1) 6 p (HC1.out.alloc _) (below_alloc HB1.out _) (by omega) HP.out.2.1 HP.out.2.2).mono ?_
  rintro e w2 ⟨a, b, rfl, hab, hC2, hB2, hK2⟩
  have HAB := Aside0.mk hab
  have HC2 := Aside0.mk hC2
  have HB2 := Aside0.mk hB2
  have hs1 : w1.heap.size < w2.heap.size := blk_lt (keep_box hK2 (blk_new w1 _) (by omega))
  have B32 := Aside0.mk (keep_box hK2 (blk_alloc B31.out _) (by omega))
  have B42 := Aside0.mk (keep_box hK2 (blk_alloc B41.out _) (by omega))
  have BS2 := Aside0.mk (keep_box hK2 (blk_new w1 (.cells #[.int .i64 p, .int .i64 s] 25 (0, 0))) (by omega))
  clear hab hC2 hB2 hK2 HC1 HB1 B31 B41
  go_wp2_with fail
  have HC4 := Aside0.mk (HC2.out.alloc (.cells #[.int .i64 a, .int .i64 b] 34 (0, 0)))
  have HB4 := Aside0.mk (below_alloc HB2.out (.cells #[.int .i64 a, .int .i64 b] 34 (0, 0)))
  have B34 := Aside0.mk (blk_alloc B32.out (.cells #[.int .i64 a, .int .i64 b] 34 (0, 0)))
  have B44 := Aside0.mk (blk_alloc B42.out (.cells #[.int .i64 a, .int .i64 b] 34 (0, 0)))
  have BS := Aside0.mk (blk_alloc BS2.out (.cells #[.int .i64 a, .int .i64 b] 34 (0, 0)))
  have BC := Aside0.mk (blk_new w2 (.cells #[.int .i64 a, .int .i64 b] 34 (0, 0)))
  generalize w2.alloc (.cells #[.int .i64 a, .int .i64 b] 34 (0, 0)) = w4 at HC4 HB4 B34 B44 BS BC ⊢
  have hb3 : w.heap.size ≠ w.heap.size + 1 + 1 := by omega
  have hb4 : w.heap.size + 1 ≠ w.heap.size + 1 + 1 := by omega
  have hbs : w1.heap.size ≠ w.heap.size + 1 + 1 := by omega
  have hbc : w2.heap.size ≠ w.heap.size + 1 + 1 := by omega
  have h34 : w.heap.size + 1 ≠ w.heap.size := by omega
  refine start_ (n := 10) (S := fun w' => w'.cell? ⟨w1.heap.size, 0, none⟩ = some (.int .i64 p) ∧ w'.cell? ⟨w2.heap.size, 0, none⟩ = some (.int .i64 a) ∧ w'.cell? ⟨w2.heap.size, 1, none⟩ = some (.int .i64 b)) (ds := [8, 9]) #[false, false, false, false, false, false, false, false, false, false] (by kernel_rfl) rfl rfl ⟨(blk_cell BS.out 0), (blk_cell BC.out 0), (blk_cell BC.out 1)⟩ (fun hHeld => ?_)
  refine pure_ (i := 0) (N := some 17) (v := ?_) (a' := ?_) #[true, false, false, false, false, false, false, false, false, false] rfl rfl (by kernel_rfl) (fun _ _ _ h => h) (Or.inl ⟨by rfl, ?_⟩) ?_ ?_
  rotate_left
  · intro w'
    go_simp
    with_reducible rfl
  rotate_left
  · simp only [Act.put, List.setIfInBounds_toArray, List.set_cons_zero, List.set_cons_succ, i64_w, i32_w]
    rfl
  refine pure_ (i := 3) (N := some 20) (v := ?_) (a' := ?_) #[true, false, false, true, false, false, false, false, false, false] rfl rfl (by kernel_rfl) (fun _ _ _ h => h) (Or.inl ⟨by rfl, ?_⟩) ?_ ?_
  rotate_left
  · intro w'
    go_simp
    with_reducible rfl
  rotate_left
  · simp only [Act.put, List.setIfInBounds_toArray, List.set_cons_zero, List.set_cons_succ, i64_w, i32_w]
    rfl
  refine pure_ (i := 4) (N := some 21) (v := ?_) (a' := ?_) #[true, false, false, true, true, false, false, false, false, false] rfl rfl (by kernel_rfl) (fun _ _ _ h => h) (Or.inl ⟨by rfl, ?_⟩) ?_ ?_
  rotate_left
  · intro w'
    go_simp
    with_reducible rfl
  rotate_left
  · simp only [Act.put, List.setIfInBounds_toArray, List.set_cons_zero, List.set_cons_succ, i64_w, i32_w]
    rfl
  refine take_ (i := 1) (N := some 18) (v := ?_) (a' := ?_) #[true, true, false, true, true, false, false, false, false, false] rfl rfl (by kernel_rfl) (fun _ _ _ h => h) (Or.inl ⟨by rfl, ?_⟩) hHeld ?_ ?_
  rotate_left
  · rintro w' ⟨s0, s1, s2⟩
    go_simp
    with_reducible rfl
  rotate_left
  · simp only [Act.put, List.setIfInBounds_toArray, List.set_cons_zero, List.set_cons_succ, i64_w, i32_w]
    rfl
  refine take_ (i := 2) (N := some 19) (v := ?_) (a' := ?_) #[true, true, true, true, true, false, false, false, false, false] rfl rfl (by kernel_rfl) (fun _ _ _ h => h) (Or.inl ⟨by rfl, ?_⟩) hHeld ?_ ?_
  rotate_left
  · rintro w' ⟨s0, s1, s2⟩
    go_simp
    with_reducible rfl
  rotate_left
  · simp only [Act.put, List.setIfInBounds_toArray, List.set_cons_zero, List.set_cons_succ, i64_w, i32_w]
    rfl
  refine take_ (i := 5) (N := some 22) (v := ?_) (a' := ?_) #[true, true, true, true, true, true, false, false, false, false] rfl rfl (by kernel_rfl) (fun _ _ _ h => h) (Or.inl ⟨by rfl, ?_⟩) hHeld ?_ ?_
  rotate_left
  · rintro w' ⟨s0, s1, s2⟩
    go_simp
    with_reducible rfl
  rotate_left
  · simp only [Act.put, List.setIfInBounds_toArray, List.set_cons_zero, List.set_cons_succ, i64_w, i32_w]
    rfl
  refine one_ (i := 6) (N := some 23) #[true, true, true, true, true, true, true, false, false, false] rfl rfl (by kernel_rfl) (by decide) (fun K hK => ?_)
  refine goes_ Try.func40 (by kernel_rfl) rfl #[.pointer (some ⟨w.heap.size + 1 + 1, 0, none⟩), .int .i64 p] (by rfl) rfl rfl (by simp only [List.map_toArray, List.map_cons, List.map_nil]; rfl) ?_
  refine (chord_calls w w4.drew (w.heap.size + 1 + 1) 12 p (HC4.out.drew.up (by omega)) (below_drew HB4.out) (by omega) HP.out.2.1 HP.out.2.2).mono ?_
  rintro e w5 ⟨x, y, rfl, hx, _, hB5, hK5⟩
  refine ⟨_, rfl, ?_⟩
  have B35 := Aside0.mk (keep_box hK5 (blk_drew B34.out) hb3)
  have B45 := Aside0.mk (keep_box hK5 (blk_drew B44.out) hb4)
  have BS5 := Aside0.mk (keep_box hK5 (blk_drew BS.out) hbs)
  have BC5 := Aside0.mk (keep_box hK5 (blk_drew BC.out) hbc)
  have HX := Aside0.mk hx
  have HB5 := Aside0.mk hB5
  clear hx hB5 hK5
  refine hK.out _ _ ⟨(blk_cell BS5.out 0), (blk_cell BC5.out 0), (blk_cell BC5.out 1)⟩ (fun hHeld => ?_)
  clear hK K
  refine norm_ (a' := ?_) ?_ ?_
  rotate_left
  · show Act.put _ (some 23) _ = _
    simp only [Act.put, List.setIfInBounds_toArray, List.set_cons_zero, List.set_cons_succ, i64_w, i32_w]
    rfl
  refine pure_ (i := 7) (N := some 2) (v := ?_) (a' := ?_) #[true, true, true, true, true, true, true, true, false, false] rfl rfl (by kernel_rfl) (fun _ _ _ h => h) (Or.inl ⟨by rfl, ?_⟩) ?_ ?_
  rotate_left
  · intro w'
    go_simp
    with_reducible rfl
  rotate_left
  · simp only [Act.put, List.setIfInBounds_toArray, List.set_cons_zero, List.set_cons_succ, i64_w, i32_w]
    rfl
  refine last_ (i := 8) (N := none) #[true, true, true, true, true, true, true, true, true, false] rfl rfl (by kernel_rfl) (by decide) (fun K hK => ?_)
  have k0 : w5.cell? ⟨w.heap.size, 0, none⟩ = some (.int .i64 0) := (blk_cell B35.out 0).trans rfl
  have k1 : w5.cell? ⟨w.heap.size, 1, none⟩ = some (.int .i64 0) := (blk_cell B35.out 1).trans rfl
  have f0 := blk_frozen B35.out 0
  have f1 := blk_frozen B35.out 1
  refine skip_ (w1 := ?_) (by rfl) rfl ?_ ?_
  rotate_left
  · go_simp
    rfl
  clear k0 k1 f0 f1
  refine hK.out _ _ ?_
  clear hK K
  refine last_ (i := 9) (N := none) #[true, true, true, true, true, true, true, true, true, true] rfl rfl (by kernel_rfl) (by decide) (fun K hK => ?_)
  have k0 : ((w5.setCell ⟨w.heap.size, 0, none⟩ (.int .i64 a)).setCell ⟨w.heap.size, 1, none⟩ (.int .i64 b)).cell? ⟨w.heap.size + 1, 0, none⟩ = some (.int .i64 0) := (blk_cell (blk_far (blk_far B45.out h34 _) h34 _) 0).trans rfl
  have k1 : ((w5.setCell ⟨w.heap.size, 0, none⟩ (.int .i64 a)).setCell ⟨w.heap.size, 1, none⟩ (.int .i64 b)).cell? ⟨w.heap.size + 1, 1, none⟩ = some (.int .i64 0) := (blk_cell (blk_far (blk_far B45.out h34 _) h34 _) 1).trans rfl
  have f0 := blk_frozen (blk_far (p := ⟨w.heap.size, 1, none⟩) (blk_far (p := ⟨w.heap.size, 0, none⟩) B45.out h34 (.int .i64 a)) h34 (.int .i64 b)) 0
  have f1 := blk_frozen (blk_far (p := ⟨w.heap.size, 1, none⟩) (blk_far (p := ⟨w.heap.size, 0, none⟩) B45.out h34 (.int .i64 a)) h34 (.int .i64 b)) 1
  refine skip_ (w1 := ?_) (by rfl) rfl ?_ ?_
  rotate_left
  · go_simp
    rfl
  clear k0 k1 f0 f1
  refine hK.out _ _ ?_
  clear hK K
  refine done_ (by kernel_rfl) ?_
  go_wp2
  refine bodyPost_ret (results_list (rs := [.tmp 2, .cell 3 34, .cell 4 34]) (vs := [.int .i64 p, .agg #[.int .i64 a, .int .i64 b], .agg #[.int .i64 x, .int .i64 y]]) rfl (by simp) ?_) rfl ?_
  · refine .tmp (.cell w.heap.size 34 _ (0, 0) _ rfl ?_ Try.underlying34 rfl (by kernel_rfl) (.cell (w.heap.size + 1) 34 _ (0, 0) _ rfl ?_ Try.underlying34 rfl (by kernel_rfl) .nil))
    · exact blk_far (blk_far (blk_two B35.out _ _) h34.symm _) h34.symm _
    · exact blk_two (blk_far (blk_far B45.out h34 _) h34 _) _ _
  · exact ⟨p, a, b, x, y, rfl, HP.out.2.2, HP.out.2.1, HAB.out, HX.out, by repeat (first | exact HB5.out | refine below_set ?_ (by first | exact Nat.le_refl _ | exact Nat.le_succ _))⟩
end Go.Proofs.Ytnjocighalandaa.X
end
section
namespace Go.Proofs.Ytnjocighalandaa.Q
open Go.RowKit Go.Proofs.Ytnjocighalandaa.X Go.Proofs.YtnjocighalandaaW.PrintWords Go.Proofs.YtnjocighalandaaW.PrintLast Go.Proofs.YtnjocighalandaaW.PrintMore
set_option linter.unusedVariables false
set_option linter.unusedSimpArgs false
theorem wrap64_id {x : Int} (h0 : -9223372036854775808 ≤ x) (h1 : x ≤ 9223372036854775807) : wrap64 x = x := by unfold wrap64; omega
end Go.Proofs.Ytnjocighalandaa.Q
end
section
namespace Go.Proofs.Ytnjocighalandaa.Q
open Go.RowKit Go.Proofs.Ytnjocighalandaa.X Go.Proofs.YtnjocighalandaaW.PrintWords Go.Proofs.YtnjocighalandaaW.PrintLast Go.Proofs.YtnjocighalandaaW.PrintMore
set_option linter.unusedVariables false
set_option linter.unusedSimpArgs false
theorem l1In_eq (a b c : Int) : spec_l1In.f a b c = some (decide (b ≤ a ∧ a ≤ c)) := by
  unfold spec_l1In.f
  by_cases h : a ≥ b
  · rw [if_pos h]; exact congrArg some (decide_eq_decide.2 (by omega))
  · rw [if_neg h]; exact congrArg some (decide_eq_false (by omega)).symm
theorem within_eq (a b c : Int) : impl_within.f a b c = some (decide (b ≤ a ∧ a ≤ c)) := by
  unfold impl_within.f
  by_cases h : a ≥ b
  · rw [if_pos h]; exact congrArg some (decide_eq_decide.2 (by omega))
  · rw [if_neg h]; exact congrArg some (decide_eq_false (by omega)).symm
theorem srPoints_eq (a : Int) : spec_srPoints.f a = some (decide (3 ≤ a ∧ a ≤ 60)) := by
  unfold spec_srPoints.f; rw [l1In_eq]; rfl
theorem isCircle_eq (a : Int) : impl_isCircle.f a = some (decide (3 ≤ a ∧ a ≤ 60)) := by
  unfold impl_isCircle.f; rw [within_eq]; rfl
end Go.Proofs.Ytnjocighalandaa.Q
end
section
namespace Go.Proofs.Ytnjocighalandaa.Q
open Go.RowKit Go.Proofs.Ytnjocighalandaa.X Go.Proofs.YtnjocighalandaaW.PrintWords Go.Proofs.YtnjocighalandaaW.PrintLast Go.Proofs.YtnjocighalandaaW.PrintMore
set_option linter.unusedVariables false
set_option linter.unusedSimpArgs false
def isStar (p s : Int) : Prop := 3 ≤ p ∧ p ≤ 60 ∧ 1 ≤ s ∧ s < p
instance (p s : Int) : Decidable (isStar p s) := by unfold isStar; infer_instance
theorem srGood_eq (p s : Int) : spec_srGood.f p s = some (decide (isStar p s)) := by
  unfold spec_srGood.f isStar
  rw [srPoints_eq]
  simp only [Option.bind_some]
  by_cases h : 3 ≤ p ∧ p ≤ 60
  · rw [if_pos (by simpa using h), l1In_eq]
    simp only [Option.bind_some]
    rw [wrap64_id (by omega) (by omega)]
    exact congrArg some (decide_eq_decide.2 (by omega))
  · rw [if_neg (by simpa using h)]
    exact congrArg some (decide_eq_false (by omega)).symm
theorem implIsStar_eq (p s : Int) : impl_IsStar.f p s = some (decide (isStar p s)) := by
  unfold impl_IsStar.f isStar
  rw [isCircle_eq]
  simp only [Option.bind_some]
  by_cases h : 3 ≤ p ∧ p ≤ 60
  · rw [if_pos (by simpa using h), within_eq]
    simp only [Option.bind_some]
    rw [wrap64_id (by omega) (by omega)]
    exact congrArg some (decide_eq_decide.2 (by omega))
  · rw [if_neg (by simpa using h)]
    exact congrArg some (decide_eq_false (by omega)).symm
end Go.Proofs.Ytnjocighalandaa.Q
end
section
namespace Go.Proofs.Ytnjocighalandaa.Q
open Go.RowKit Go.Proofs.Ytnjocighalandaa.X Go.Proofs.YtnjocighalandaaW.PrintWords Go.Proofs.YtnjocighalandaaW.PrintLast Go.Proofs.YtnjocighalandaaW.PrintMore
set_option linter.unusedVariables false
set_option linter.unusedSimpArgs false
def cLt (x y : S34) : Bool := decide (x.f0 < y.f0 ∨ (x.f0 = y.f0 ∧ x.f1 < y.f1))
theorem cLt_iff (x y : S34) : cLt x y = true ↔ (x.f0 < y.f0 ∨ (x.f0 = y.f0 ∧ x.f1 < y.f1)) := by unfold cLt; exact decide_eq_true_iff
theorem chord_ext {x y : S34} (h0 : x.f0 = y.f0) (h1 : x.f1 = y.f1) : x = y := by cases x; cases y; simp_all
def Strict (l : List S34) : Prop := l.Pairwise fun x y => cLt x y = true
theorem strict_unique : ∀ (l m : List S34), Strict l → Strict m → (∀ x, x ∈ l ↔ x ∈ m) → l = m
  | [], [], _, _, _ => rfl
  | [], y :: m, _, _, h => by have := (h y).2 (by simp); simp at this
  | x :: l, [], _, _, h => by have := (h x).1 (by simp); simp at this
  | x :: l, y :: m, hl, hm, h => by
    unfold Strict at hl hm
    rw [List.pairwise_cons] at hl hm
    have e : x = y := by
      have h1 := (h x).1 (by simp)
      have h2 := (h y).2 (by simp)
      rcases List.mem_cons.1 h1 with h1 | h1
      · exact h1
      · rcases List.mem_cons.1 h2 with h2 | h2
        · exact h2.symm
        · have a := hl.1 y h2
          have b := hm.1 x h1
          rw [cLt_iff] at a b
          omega
    subst e
    rw [strict_unique l m hl.2 hm.2 (fun z => by
      have hz := h z
      simp only [List.mem_cons] at hz
      constructor
      · intro hzl
        rcases hz.1 (Or.inr hzl) with e | e
        · subst e; have := hl.1 z hzl; rw [cLt_iff] at this; omega
        · exact e
      · intro hzm
        rcases hz.2 (Or.inr hzm) with e | e
        · subst e; have := hm.1 z hzm; rw [cLt_iff] at this; omega
        · exact e)]
def insL (c : S34) : List S34 → List S34
  | [] => [c]
  | x :: l => if cLt x c = true then x :: insL c l else if x.f0 = c.f0 ∧ x.f1 = c.f1 then x :: l else c :: x :: l
theorem insL_mem (c : S34) : ∀ (l : List S34) (x : S34), x ∈ insL c l ↔ x = c ∨ x ∈ l
  | [], x => by simp [insL]
  | y :: l, x => by
    unfold insL
    split
    · rw [List.mem_cons, insL_mem c l x, List.mem_cons]; constructor
      · rintro (h | h | h) <;> simp [h]
      · rintro (h | h | h) <;> simp [h]
    · split
      · rename_i e; have e := chord_ext e.1 e.2; subst e; simp
      · simp
theorem insL_strict (c : S34) : ∀ (l : List S34), Strict l → Strict (insL c l)
  | [], _ => by simp [insL, Strict]
  | y :: l, h => by
    unfold Strict at h
    rw [List.pairwise_cons] at h
    unfold insL
    split
    · rename_i hy
      unfold Strict
      rw [List.pairwise_cons]
      refine ⟨fun z hz => ?_, insL_strict c l h.2⟩
      rcases (insL_mem c l z).1 hz with e | e
      · subst e; exact hy
      · exact h.1 z e
    · split
      · unfold Strict; rw [List.pairwise_cons]; exact h
      · rename_i h1 h2
        have h3 : ¬ (y.f0 = c.f0 ∧ y.f1 = c.f1) := h2
        have h4 : cLt c y = true := by rw [cLt_iff] at h1 ⊢; omega
        unfold Strict
        rw [List.pairwise_cons, List.pairwise_cons]
        refine ⟨fun z hz => ?_, h⟩
        rcases List.mem_cons.1 hz with e | e
        · subst e; exact h4
        · have h5 := h.1 z e
          rw [cLt_iff] at h4 h5 ⊢
          omega
theorem insL_len (c : S34) : ∀ (l : List S34), (insL c l).length ≤ l.length + 1
  | [] => by simp [insL]
  | y :: l => by
    unfold insL
    have := insL_len c l
    split
    · simp; omega
    · split <;> simp
def putAll (acc : List S34) : List S34 → List S34
  | [] => acc
  | c :: l => putAll (insL c acc) l
theorem putAll_spec : ∀ (l acc : List S34), Strict acc → Strict (putAll acc l) ∧ ∀ x, x ∈ putAll acc l ↔ x ∈ acc ∨ x ∈ l
  | [], acc, h => ⟨h, by simp [putAll]⟩
  | c :: l, acc, h => by
    obtain ⟨h1, h2⟩ := putAll_spec l (insL c acc) (insL_strict c acc h)
    refine ⟨h1, fun x => ?_⟩
    unfold putAll
    rw [h2, insL_mem, List.mem_cons]
    constructor
    · rintro ((h | h) | h) <;> simp [h]
    · rintro (h | h | h) <;> simp [h]
theorem rdC_get (l : List S34) (i : Int) (h0 : 0 ≤ i) (h1 : i < l.length) : rd_T34 l i = l[i.toNat]'(by omega) := by
  unfold rd_T34
  have h : i.toNat < l.length := by omega
  simp [h]
theorem srLess_eq (a b c d : Int) : spec_srLess.f a b c d = some (cLt ⟨a, b⟩ ⟨c, d⟩) := by
  unfold spec_srLess.f cLt
  split
  · rename_i h; exact congrArg some (decide_eq_true (Or.inl h)).symm
  · split
    · rename_i h1 h2
      refine congrArg some (decide_eq_decide.2 ?_)
      simp only
      omega
    · rename_i h1 h2
      refine congrArg some (decide_eq_false ?_).symm
      simp only
      omega
theorem rdC_append (l m : List S34) (x : S34) : rd_T34 (l ++ x :: m) (l.length : Int) = x := by
  rw [rdC_get _ _ (by omega) (by simp; omega)]
  simp
def mkC (a b : Int) : S34 := ⟨mn a b, mx a b⟩
def Proper (n : Int) (c : S34) : Prop := 0 ≤ c.f0 ∧ c.f0 < c.f1 ∧ c.f1 < n
theorem mkC_proper (n a b : Int) (ha : 0 ≤ a ∧ a < n) (hb : 0 ≤ b ∧ b < n) (h : a ≠ b) : Proper n (mkC a b) := by
  unfold Proper mkC mn mx
  simp only
  split <;> split <;> omega
end Go.Proofs.Ytnjocighalandaa.Q
end
section
namespace Go.Proofs.Ytnjocighalandaa.Q
open Go.RowKit Go.Proofs.Ytnjocighalandaa.X Go.Proofs.YtnjocighalandaaW.PrintWords Go.Proofs.YtnjocighalandaaW.PrintLast Go.Proofs.YtnjocighalandaaW.PrintMore
set_option linter.unusedVariables false
set_option linter.unusedSimpArgs false
theorem srPut_loop (c : S34) (m : List S34) : ∀ (k : Nat) (pre : List S34), pre.length + m.length ≤ 1000 → m.length < k →
    spec_srPut.l0 k (pre ++ m) pre.length c.f0 c.f1 = some (pre ++ insL c m) := by
  induction m with
  | nil =>
    intro k pre hl hk
    obtain ⟨k, rfl⟩ : ∃ t, k = t + 1 := ⟨k - 1, by omega⟩
    simp only [List.length_nil, Nat.add_zero] at hl
    simp only [spec_srPut.l0, List.append_nil, insL]
    rw [if_neg (by omega)]
    simp only [Option.bind_some, List.nil_append, Int.toNat_natCast, List.take_length, List.drop_length, List.append_nil, List.length_nil, List.length_append, List.length_cons]
    rw [if_pos (by omega), if_pos (by omega), if_pos (by omega), if_pos (by omega), if_pos (by omega)]
  | cons x m ih =>
    intro k pre hl hk
    obtain ⟨k, rfl⟩ : ∃ t, k = t + 1 := ⟨k - 1, by omega⟩
    simp only [List.length_cons] at hl hk
    simp only [spec_srPut.l0, insL]
    have hlen : ((pre ++ x :: m).length : Int) = pre.length + m.length + 1 := by simp; omega
    rw [if_pos (by omega), if_pos (by omega)]
    have hrd : rd_T34 (pre ++ x :: m) pre.length = x := by
      rw [rdC_get _ _ (by omega) (by omega)]
      simp
    rw [hrd, srLess_eq]
    simp only [Option.bind_some]
    by_cases h : cLt x c = true
    · rw [if_pos h, if_pos h, wrap64_id (by omega) (by omega)]
      have := ih k (pre ++ [x]) (by simp; omega) (by omega)
      simp only [List.append_assoc, List.cons_append, List.nil_append, List.length_append, List.length_cons, List.length_nil] at this
      rw [show (pre.length : Int) + 1 = ((pre.length + (0 + 1) : Nat) : Int) by omega]
      exact this
    · rw [if_neg h, if_neg h]
      by_cases e : x.f0 = c.f0 ∧ x.f1 = c.f1
      · rw [if_pos (by simpa using e), if_pos e]
      · rw [if_neg (by simpa using e), if_neg e, if_pos (by omega)]
        simp only [Int.toNat_natCast, List.take_left, List.drop_left, List.nil_append, List.length_nil, List.length_append, List.length_cons]
        rw [if_pos (by omega), if_pos (by omega), if_pos (by omega)]
        simp
theorem srPut_eq (c : S34) (l : List S34) (k : Nat) (hl : l.length ≤ 1000) (hk : l.length < k) : spec_srPut.f k l c.f0 c.f1 = some (insL c l) := by
  unfold spec_srPut.f
  simpa using srPut_loop c l k [] (by simpa using hl) hk
end Go.Proofs.Ytnjocighalandaa.Q
end
section
namespace Go.Proofs.Ytnjocighalandaa.Q
open Go.RowKit Go.Proofs.Ytnjocighalandaa.X Go.Proofs.YtnjocighalandaaW.PrintWords Go.Proofs.YtnjocighalandaaW.PrintLast Go.Proofs.YtnjocighalandaaW.PrintMore
set_option linter.unusedVariables false
set_option linter.unusedSimpArgs false
theorem ordL_c (l : List S34) : ordL l = Lib.compact (l.mergeSort fun x y => !cLt y x) := rfl
theorem compactUpTo_strict (d : Array S34) (hd : ∀ i j, i < j → j < d.size → ¬ cLt d[j]! d[i]! = true) : ∀ m, m ≤ d.size →
    Strict (Lib.compactUpTo d m) ∧ (∀ x, x ∈ Lib.compactUpTo d m ↔ ∃ j, j < m ∧ d[j]! = x)
  | 0, _ => ⟨by simp [Lib.compactUpTo, Strict], by simp [Lib.compactUpTo]⟩
  | m + 1, hm => by
    obtain ⟨h1, h2⟩ := compactUpTo_strict d hd m (by omega)
    rw [Lib.compactUpTo_succ]
    by_cases hk : Lib.keeps d m = true
    · rw [if_pos hk]
      constructor
      · unfold Strict at h1 ⊢
        rw [List.pairwise_append]
        refine ⟨h1, by simp, ?_⟩
        intro x hx y hy
        obtain rfl : y = d[m]! := by simpa using hy
        obtain ⟨j, hj, rfl⟩ := (h2 x).1 hx
        have hne : m = 0 ∨ d[m]! ≠ d[m - 1]! := by simpa [Lib.keeps] using hk
        have hne : d[m]! ≠ d[m - 1]! := hne.resolve_left (by omega)
        have a := hd (m - 1) m (by omega) (by omega)
        have b : ¬ cLt d[m - 1]! d[j]! = true := by
          by_cases e : j = m - 1
          · subst e; rw [cLt_iff]; omega
          · exact hd j (m - 1) (by omega) (by omega)
        rw [cLt_iff] at a b ⊢
        have hne' : ¬ (d[m]!.f0 = d[m - 1]!.f0 ∧ d[m]!.f1 = d[m - 1]!.f1) := fun e => hne (chord_ext e.1 e.2)
        omega
      · intro x
        rw [List.mem_append, h2]
        constructor
        · rintro (⟨j, hj, rfl⟩ | hx)
          · exact ⟨j, by omega, rfl⟩
          · exact ⟨m, by omega, by simpa [eq_comm] using hx⟩
        · rintro ⟨j, hj, rfl⟩
          by_cases e : j = m
          · subst e; exact Or.inr (by simp)
          · exact Or.inl ⟨j, by omega, rfl⟩
    · rw [if_neg hk, List.append_nil]
      refine ⟨h1, fun x => ?_⟩
      rw [h2]
      have hne : ¬ (m = 0 ∨ d[m]! ≠ d[m - 1]!) := by simpa [Lib.keeps] using hk
      have e0 : m ≠ 0 := fun e => hne (Or.inl e)
      have e1 : d[m]! = d[m - 1]! := Classical.byContradiction fun e => hne (Or.inr e)
      constructor
      · rintro ⟨j, hj, rfl⟩; exact ⟨j, by omega, rfl⟩
      · rintro ⟨j, hj, rfl⟩
        by_cases e : j = m
        · subst e; exact ⟨j - 1, by omega, e1.symm⟩
        · exact ⟨j, by omega, rfl⟩
theorem ordL_strict (l : List S34) : Strict (ordL l) ∧ ∀ x, x ∈ ordL l ↔ x ∈ l := by
  have hsort : (l.mergeSort fun x y => !cLt y x).Pairwise fun x y => (!cLt y x) = true := by
    apply List.pairwise_mergeSort
    · intro a b c h1 h2
      simp only [Bool.not_eq_true', ← Bool.not_eq_true] at h1 h2 ⊢
      rw [cLt_iff] at h1 h2 ⊢
      omega
    · intro a b
      by_cases h : cLt b a = true
      · have : ¬ cLt a b = true := by rw [cLt_iff] at h ⊢; omega
        simp [h, this]
      · simp [h]
  have hmem : ∀ x, x ∈ (l.mergeSort fun x y => !cLt y x) ↔ x ∈ l := fun x => List.mem_mergeSort
  rw [ordL_c]
  generalize (l.mergeSort fun x y => !cLt y x) = z at *
  have H := compactUpTo_strict z.toArray (by
    intro i j hij hj
    have hj' : j < z.length := by simpa using hj
    have := List.pairwise_iff_getElem.1 hsort i j (by omega) hj' hij
    have e1 : z.toArray[j]! = z[j] := by simp [hj']
    have e2 : z.toArray[i]! = z[i] := by simp [show i < z.length by omega]
    rw [e1, e2]
    simpa using this) z.length (by simp)
  unfold Lib.compact
  refine ⟨H.1, fun x => ?_⟩
  rw [H.2, ← hmem]
  constructor
  · rintro ⟨j, hj, rfl⟩; simp [hj]
  · intro hx
    obtain ⟨j, hj, rfl⟩ := List.getElem_of_mem hx
    exact ⟨j, hj, by simp [hj]⟩
theorem putAll_ordL (l : List S34) : putAll [] l = ordL l := by
  obtain ⟨h1, h2⟩ := putAll_spec l [] (by simp [Strict])
  obtain ⟨h3, h4⟩ := ordL_strict l
  exact strict_unique _ _ h1 h3 (fun x => by rw [h2, h4]; simp)
theorem ordL_len (l : List S34) : (ordL l).length ≤ l.length := by
  rw [ordL_c]
  have := Lib.compact_length_le (l.mergeSort fun x y => !cLt y x)
  simpa using this
theorem ordered_eq (l : List S34) (h : l.length ≤ 1000) : impl_ordered.f l = some (ordL l) := by unfold impl_ordered.f; rw [if_pos h]
end Go.Proofs.Ytnjocighalandaa.Q
end
section
namespace Go.Proofs.Ytnjocighalandaa.Q
open Go.RowKit Go.Proofs.Ytnjocighalandaa.X Go.Proofs.YtnjocighalandaaW.PrintWords Go.Proofs.YtnjocighalandaaW.PrintLast Go.Proofs.YtnjocighalandaaW.PrintMore
set_option linter.unusedVariables false
set_option linter.unusedSimpArgs false
theorem srChord_eq (a b : Int) : spec_srChord.f a b = some ((mkC a b).f0, (mkC a b).f1) := by
  unfold spec_srChord.f spec_l1Least.f spec_l1Most.f mkC mn mx
  by_cases h : a < b
  · rw [if_pos h, if_neg (by omega)]
    simp [h]
    try omega
  · rw [if_neg h]
    by_cases h2 : a > b
    · rw [if_pos h2]; simp [h]; try omega
    · rw [if_neg h2]; simp [h]; try omega
theorem implChord_eq (a b : Int) : impl_chord.f a b = some ((mkC a b).f0, (mkC a b).f1) := rfl
end Go.Proofs.Ytnjocighalandaa.Q
end
section
namespace Go.Proofs.Ytnjocighalandaa.Q
open Go.RowKit Go.Proofs.Ytnjocighalandaa.X Go.Proofs.YtnjocighalandaaW.PrintWords Go.Proofs.YtnjocighalandaaW.PrintLast Go.Proofs.YtnjocighalandaaW.PrintMore
set_option linter.unusedVariables false
set_option linter.unusedSimpArgs false
def chFrom (n s : Int) : Int → Nat → List S34
  | _, 0 => []
  | x, d + 1 => mkC x ((x + s) % n) :: chFrom n s (x + 1) d
theorem chFrom_len (n s : Int) : ∀ (d : Nat) (x : Int), (chFrom n s x d).length = d
  | 0, _ => rfl
  | d + 1, x => by unfold chFrom; simp [chFrom_len n s d]
theorem shift_ne (n s x : Int) (hs : isStar n s) (hx : 0 ≤ x ∧ x < n) : x ≠ (x + s) % n := by
  unfold isStar at hs
  intro e
  have h1 : (x + s) % n = (if x + s < n then x + s else x + s - n) := by
    split
    · exact Int.emod_eq_of_lt (by omega) (by omega)
    · rename_i h
      have : (x + s) % n = (x + s - n) % n := by
        rw [show x + s - n = x + s + n * (-1) by omega, Int.add_mul_emod_self_left]
      rw [this]; exact Int.emod_eq_of_lt (by omega) (by omega)
  rw [h1] at e
  split at e <;> omega
theorem chFrom_proper (n s : Int) (hs : isStar n s) : ∀ (d : Nat) (x : Int), 0 ≤ x → x + d ≤ n → ∀ c ∈ chFrom n s x d, Proper n c
  | 0, _, _, _, c, hc => by simp [chFrom] at hc
  | d + 1, x, h0, h1, c, hc => by
    unfold chFrom at hc
    rcases List.mem_cons.1 hc with e | e
    · subst e
      have hs' := hs
      unfold isStar at hs'
      exact mkC_proper n _ _ (by omega) ⟨Int.emod_nonneg _ (by omega), Int.emod_lt_of_pos _ (by omega)⟩ (shift_ne n s x hs (by omega))
    · exact chFrom_proper n s hs d (x + 1) (by omega) (by omega) c e
def starL (n s : Int) : List S34 := ordL (chFrom n s 0 n.toNat)
theorem starL_len (n s : Int) : (starL n s).length ≤ n.toNat := by
  unfold starL
  have := ordL_len (chFrom n s 0 n.toNat)
  rw [chFrom_len] at this
  exact this
theorem starL_proper (n s : Int) (hs : isStar n s) : ∀ c ∈ starL n s, Proper n c := by
  intro c hc
  have hs' := hs
  unfold isStar at hs'
  exact chFrom_proper n s hs n.toNat 0 (by omega) (by omega) c (((ordL_strict _).2 c).1 hc)
theorem starL_strict (n s : Int) : Strict (starL n s) := (ordL_strict _).1
theorem tmod_shift (n s x : Int) (hs : isStar n s) (hx : 0 ≤ x ∧ x < n) : Int.tmod (wrap64 (x + s)) n = (x + s) % n := by
  unfold isStar at hs
  rw [wrap64_id (by omega) (by omega), Int.tmod_eq_emod_of_nonneg (by omega)]
theorem srChords_loop (n s : Int) (hs : isStar n s) (d : Nat) : ∀ (k : Nat) (acc : List S34) (x : Int), 0 ≤ x → x ≤ n → n - x = d → acc.length ≤ x → d + 62 < k →
    spec_srChords.l0 k acc x n s = some (putAll acc (chFrom n s x d)) := by
  have hs' := hs
  unfold isStar at hs'
  induction d with
  | zero =>
    intro k acc x h0 h1 hd ha hk
    obtain ⟨k, rfl⟩ : ∃ m, k = m + 1 := ⟨k - 1, by omega⟩
    simp only [spec_srChords.l0, chFrom, putAll]
    rw [if_neg (by omega)]
  | succ d ih =>
    intro k acc x h0 h1 hd ha hk
    obtain ⟨k, rfl⟩ : ∃ m, k = m + 1 := ⟨k - 1, by omega⟩
    simp only [spec_srChords.l0, chFrom, putAll]
    rw [if_pos (by omega), if_neg (by omega), tmod_shift n s x hs (by omega), srChord_eq]
    simp only [Option.bind_some]
    rw [srPut_eq _ _ _ (by omega) (by omega)]
    simp only [Option.bind_some]
    rw [wrap64_id (by omega) (by omega)]
    have := insL_len (mkC x ((x + s) % n)) acc
    exact ih k _ (x + 1) (by omega) (by omega) (by omega) (by omega) (by omega)
theorem srChords_eq (n s : Int) (hs : isStar n s) (k : Nat) (hk : 130 ≤ k) : spec_srChords.f k n s = some (starL n s) := by
  have hs' := hs
  unfold isStar at hs'
  unfold spec_srChords.f starL
  rw [← putAll_ordL]
  exact srChords_loop n s hs n.toNat k [] 0 (by omega) (by omega) (by omega) (by simp) (by omega)
theorem starChords_loop (n s : Int) (hs : isStar n s) (d : Nat) : ∀ (k : Nat) (acc : List S34) (x : Int), 0 ≤ x → x ≤ n → n - x = d → acc.length ≤ x → d < k →
    impl_Star_chords.l0 k acc n x n s = some (ordL (acc ++ chFrom n s x d)) := by
  have hs' := hs
  unfold isStar at hs'
  induction d with
  | zero =>
    intro k acc x h0 h1 hd ha hk
    obtain ⟨k, rfl⟩ : ∃ m, k = m + 1 := ⟨k - 1, by omega⟩
    simp only [impl_Star_chords.l0, chFrom, List.append_nil]
    rw [if_neg (by omega), ordered_eq acc (by omega)]
    rfl
  | succ d ih =>
    intro k acc x h0 h1 hd ha hk
    obtain ⟨k, rfl⟩ : ∃ m, k = m + 1 := ⟨k - 1, by omega⟩
    simp only [impl_Star_chords.l0, chFrom]
    rw [if_pos (by omega), if_neg (by omega), tmod_shift n s x hs (by omega), implChord_eq]
    simp only [Option.bind_some]
    rw [if_pos (by omega), wrap64_id (by omega) (by omega)]
    have := ih k (acc ++ [mkC x ((x + s) % n)]) (x + 1) (by omega) (by omega) (by omega) (by simp; omega) (by omega)
    rw [List.append_assoc] at this
    exact this
theorem starChords_eq (n s : Int) (hs : isStar n s) (k : Nat) (hk : 130 ≤ k) : impl_Star_chords.f k n s = some (starL n s) := by
  have hs' := hs
  unfold isStar at hs'
  unfold impl_Star_chords.f starL
  simpa using starChords_loop n s hs n.toNat k [] 0 (by omega) (by omega) (by omega) (by simp) (by omega)
end Go.Proofs.Ytnjocighalandaa.Q
end
section
namespace Go.Proofs.Ytnjocighalandaa.X
open Go.RowKit Go.Proofs.YtnjocighalandaaW.PrintWords Go.Proofs.YtnjocighalandaaW.PrintLast Go.Proofs.YtnjocighalandaaW.PrintMore
attribute [local go_sem] max2_int min2_int max_two min_two max_three min_three max_four min_four
set_option linter.unusedVariables false
set_option linter.unusedSimpArgs false
def TellsStarChord (w : World) (e : Ending) (w' : World) : Prop := ∃ p s a b : Int, e = .returned (.tuple #[.agg #[.int .i64 p, .int .i64 s], .agg #[.int .i64 a, .int .i64 b]]) ∧ StarDom p s ∧ ChordDom p a b ∧ Below w.heap.size w w'
def ChordsAt (w : World) (ad : Addr) (L : List S34) : Prop := ∀ j : Int, 0 ≤ j → j < L.length → w.cell? (ad.add (j.toNat * 2)) = some (.int .i64 (rd_T34 L j).f0) ∧ w.cell? ⟨(ad.add (j.toNat * 2)).block, (ad.add (j.toNat * 2)).off + 1, none⟩ = some (.int .i64 (rd_T34 L j).f1)
theorem chordsAt_of {w : World} {ad : Addr} {L : List S34} (h : Kd.C k34 w (some ad) L.length L) : ChordsAt w ad L := fun j h0 h1 => by
  obtain ⟨ad2, e, m⟩ := at_T34 h j h0 h1
  cases e
  exact m
theorem chordsAt_keep {w W : World} {g : Nat} {ad : Addr} {L : List S34} (hk : KeepBut w W g none) (h : ChordsAt w ad L) (hne : ad.block ≠ g) : ChordsAt W ad L := fun j h0 h1 =>
  ⟨keep_cell hk (h j h0 h1).1 (by rw [add_block]; exact hne), keep_cell hk (h j h0 h1).2 (by simp only [add_block]; exact hne)⟩
theorem chordsAt_far {w : World} {b j : Nat} {ad : Addr} {L : List S34} (h : ChordsAt w ad L) (hne : ad.block ≠ b) (v : Value) : ChordsAt (w.setCell ⟨b, j, none⟩ v) ad L := fun i h0 h1 =>
  ⟨(cell_far (by rw [add_block]; exact hne) _).trans (h i h0 h1).1, (cell_far (by simp only [add_block]; exact hne) _).trans (h i h0 h1).2⟩
theorem starL_pos (n s : Int) (h : 3 ≤ n) : 0 < (Q.starL n s).length := by
  obtain ⟨m, hm⟩ : ∃ m, n.toNat = m + 1 := ⟨n.toNat - 1, by omega⟩
  have hx : Q.mkC 0 ((0 + s) % n) ∈ Q.starL n s := by
    unfold Q.starL
    rw [(Q.ordL_strict _).2, hm]
    simp [Q.chFrom]
  exact List.length_pos_of_mem hx
theorem rdT_mem (L : List S34) (j : Int) (h0 : 0 ≤ j) (h : j < L.length) : rd_T34 L j ∈ L := by
  unfold rd_T34
  rw [List.getD_eq_getElem?_getD, List.getElem?_eq_getElem (by omega), Option.getD_some]
  exact List.getElem_mem _
set_option maxHeartbeats 4000000 in
set_option maxRecDepth 100000 in
theorem drawCrossingsOn_calls (A : Option Addr) (c : Nat) (l : List Int) (w : World) (hl : Kd.C (Kd.int .u8) w A l.length l) (hr : isBytes l) :
    Calls Try.prog 16 #[.slice A l.length c] w (TellsStarChord w) := by
  have HL := Aside0.mk hl
  have HR := Aside0.mk hr
  have h23 : w.heap.size + 1 ≠ w.heap.size := by omega
  clear hl hr
  go_enter Try.func16, Try.ntmps16
  go_wp2_with fail
  refine (star_calls w _ (w.heap.size + 2) 0 (cur_new (below_two w _ _) HL.out HR.out (by simp)) (below_alloc (below_two w _ _) _) (by omega)).mono ?_
  rintro e w1 ⟨p, s, rfl, hd, hC1, hB1, hK1⟩
  have HC1 := Aside0.mk hC1
  have HP := Aside0.mk (show 0 = 0 ∧ p ≤ 4611686018427387904 ∧ -1 ≤ p from ⟨rfl, by have := StarDom.wf hd; omega, by have := StarDom.wf hd; omega⟩)
  have HB1 := Aside0.mk hB1
  have HD := Aside0.mk hd
  have B21 := Aside0.mk (keep_box hK1 (blk_alloc (blk_alloc (blk_new w _) _) _) (by omega))
  have B31 := Aside0.mk (keep_box hK1 (blk_alloc (blk_at (blk_new (w.alloc _) _) (b := w.heap.size + 1) (by simp)) _) (by omega))
  have hg1 := hC1.lt
  clear hC1 hB1 hK1 hd HL
  have hc0 : (w1.alloc (.cells #[.int .i64 p, .int .i64 s] 25 (0, 0))).cell? ⟨w1.heap.size, 0, none⟩ = some (.int .i64 p) := (blk_cell (blk_new w1 _) 0).trans rfl
  have hc1 : (w1.alloc (.cells #[.int .i64 p, .int .i64 s] 25 (0, 0))).cell? ⟨w1.heap.size, 1, none⟩ = some (.int .i64 s) := (blk_cell (blk_new w1 _) 1).trans rfl
  go_wp2_with fail
  clear hc0 hc1
  refine (srGood_calls p s _).mono ?_
  rintro e w2 ⟨rfl, hb⟩
  have hs1 : w1.heap.size < w2.heap.size := blk_lt (blk_below (blk_new w1 (.cells #[.int .i64 p, .int .i64 s] 25 (0, 0))) hb)
  have B22 := Aside0.mk (blk_below (blk_alloc B21.out _) hb)
  have B32 := Aside0.mk (blk_below (blk_alloc B31.out _) hb)
  have BS2 := Aside0.mk (blk_below (blk_new w1 (.cells #[.int .i64 p, .int .i64 s] 25 (0, 0))) hb)
  have HC2 := Aside0.mk ((HC1.out.alloc _).below hb)
  have HB2 := Aside0.mk (below_step (below_alloc HB1.out _) hb)
  clear hb B21 B31 HC1 HB1
  cases hG : goodB p s with
  | false =>
    clear hG
    go_wp2_with fail
    refine start_ (n := 7) (S := fun w' => w'.cell? ⟨w1.heap.size, 0, none⟩ = some (.int .i64 p) ∧ w'.cell? ⟨w1.heap.size, 1, none⟩ = some (.int .i64 s)) (ds := [5, 6]) #[false, false, false, false, false, false, false] (by kernel_rfl) rfl rfl ⟨(blk_cell BS2.out 0), (blk_cell BS2.out 1)⟩ (fun hHeld => ?_)
    refine pure_ (i := 1) (N := some 29) (v := ?_) (a' := ?_) #[false, true, false, false, false, false, false] rfl rfl (by kernel_rfl) (fun _ _ _ h => h) (Or.inl ⟨by rfl, ?_⟩) ?_ ?_
    rotate_left
    · intro w'
      go_simp
      with_reducible rfl
    rotate_left
    · simp only [Act.put, List.setIfInBounds_toArray, List.set_cons_zero, List.set_cons_succ, i64_w, i32_w]
      rfl
    refine pure_ (i := 2) (N := some 30) (v := ?_) (a' := ?_) #[false, true, true, false, false, false, false] rfl rfl (by kernel_rfl) (fun _ _ _ h => h) (Or.inl ⟨by rfl, ?_⟩) ?_ ?_
    rotate_left
    · intro w'
      go_simp
      with_reducible rfl
    rotate_left
    · simp only [Act.put, List.setIfInBounds_toArray, List.set_cons_zero, List.set_cons_succ, i64_w, i32_w]
      rfl
    refine take_ (i := 0) (N := some 28) (v := ?_) (a' := ?_) #[true, true, true, false, false, false, false] rfl rfl (by kernel_rfl) (fun _ _ _ h => h) (Or.inl ⟨by rfl, ?_⟩) hHeld ?_ ?_
    rotate_left
    · rintro w' ⟨s0, s1⟩
      go_simp
      with_reducible rfl
    rotate_left
    · simp only [Act.put, List.setIfInBounds_toArray, List.set_cons_zero, List.set_cons_succ, i64_w, i32_w]
      rfl
    refine take_ (i := 3) (N := some 31) (v := ?_) (a' := ?_) #[true, true, true, true, false, false, false] rfl rfl (by kernel_rfl) (fun _ _ _ h => h) (Or.inl ⟨by rfl, ?_⟩) hHeld ?_ ?_
    rotate_left
    · rintro w' ⟨s0, s1⟩
      go_simp
      with_reducible rfl
    rotate_left
    · simp only [Act.put, List.setIfInBounds_toArray, List.set_cons_zero, List.set_cons_succ, i64_w, i32_w]
      rfl
    refine one_ (i := 4) (N := some 32) #[true, true, true, true, true, false, false] rfl rfl (by kernel_rfl) (by decide) (fun K hK => ?_)
    refine goes_ Try.func40 (by kernel_rfl) rfl #[.pointer (some ⟨w.heap.size + 1 + 1, 0, none⟩), .int .i64 p] (by rfl) rfl rfl (by simp only [List.map_toArray, List.map_cons, List.map_nil]; rfl) ?_
    refine (chord_calls w w2.drew (w.heap.size + 1 + 1) 6 p (HC2.out.drew.up (by omega)) (below_drew HB2.out) (by omega) HP.out.2.1 HP.out.2.2).mono ?_
    rintro e w5 ⟨x, y, rfl, hx, _, hB5, hK5⟩
    refine ⟨_, rfl, ?_⟩
    have B25 := Aside0.mk (keep_box hK5 (blk_drew B22.out) (by omega))
    have B35 := Aside0.mk (keep_box hK5 (blk_drew B32.out) (by omega))
    have BS5 := Aside0.mk (keep_box hK5 (blk_drew BS2.out) (by omega))
    have HX := Aside0.mk hx
    have HB5 := Aside0.mk hB5
    clear hx hB5 hK5
    refine hK.out _ _ ⟨(blk_cell BS5.out 0), (blk_cell BS5.out 1)⟩ (fun hHeld => ?_)
    clear hK K
    refine norm_ (a' := ?_) ?_ ?_
    rotate_left
    · show Act.put _ (some 32) _ = _
      simp only [Act.put, List.setIfInBounds_toArray, List.set_cons_zero, List.set_cons_succ, i64_w, i32_w]
      rfl
    refine last_ (i := 5) (N := none) #[true, true, true, true, true, true, false] rfl rfl (by kernel_rfl) (by decide) (fun K hK => ?_)
    have k0 : w5.cell? ⟨w.heap.size, 0, none⟩ = some (.int .i64 0) := (blk_cell B25.out 0).trans rfl
    have k1 : w5.cell? ⟨w.heap.size, 1, none⟩ = some (.int .i64 0) := (blk_cell B25.out 1).trans rfl
    have f0 := blk_frozen B25.out 0
    have f1 := blk_frozen B25.out 1
    refine skip_ (w1 := ?_) (by rfl) rfl ?_ ?_
    rotate_left
    · go_simp
      rfl
    clear k0 k1 f0 f1
    refine hK.out _ _ ?_
    clear hK K
    refine last_ (i := 6) (N := none) #[true, true, true, true, true, true, true] rfl rfl (by kernel_rfl) (by decide) (fun K hK => ?_)
    have k0 : ((w5.setCell ⟨w.heap.size, 0, none⟩ (.int .i64 p)).setCell ⟨w.heap.size, 1, none⟩ (.int .i64 s)).cell? ⟨w.heap.size + 1, 0, none⟩ = some (.int .i64 0) := (blk_cell (blk_far (blk_far B35.out h23 _) h23 _) 0).trans rfl
    have k1 : ((w5.setCell ⟨w.heap.size, 0, none⟩ (.int .i64 p)).setCell ⟨w.heap.size, 1, none⟩ (.int .i64 s)).cell? ⟨w.heap.size + 1, 1, none⟩ = some (.int .i64 0) := (blk_cell (blk_far (blk_far B35.out h23 _) h23 _) 1).trans rfl
    have f0 := blk_frozen (blk_far (p := ⟨w.heap.size, 1, none⟩) (blk_far (p := ⟨w.heap.size, 0, none⟩) B35.out h23 (.int .i64 p)) h23 (.int .i64 s)) 0
    have f1 := blk_frozen (blk_far (p := ⟨w.heap.size, 1, none⟩) (blk_far (p := ⟨w.heap.size, 0, none⟩) B35.out h23 (.int .i64 p)) h23 (.int .i64 s)) 1
    refine skip_ (w1 := ?_) (by rfl) rfl ?_ ?_
    rotate_left
    · go_simp
      rfl
    clear k0 k1 f0 f1
    refine hK.out _ _ ?_
    clear hK K
    refine done_ (by kernel_rfl) ?_
    go_wp2
    refine bodyPost_ret (results_cc rfl _ _ w.heap.size (w.heap.size + 1) 25 34 #[.int .i64 p, .int .i64 s] #[.int .i64 x, .int .i64 y] (0, 0) (0, 0) _ _ rfl (blk_far (blk_far (blk_two B25.out _ _) h23.symm _) h23.symm _) Try.underlying25 rfl (by kernel_rfl) rfl (blk_two (blk_far (blk_far B35.out h23 _) h23 _) _ _) Try.underlying34 rfl (by kernel_rfl)) rfl ?_
    exact ⟨p, s, _, _, rfl, HD.out, HX.out, by repeat (first | exact HB5.out | refine below_set ?_ (by first | exact Nat.le_refl _ | exact Nat.le_succ _))⟩
  | true =>
    have HG := Aside0.mk hG
    clear hG
    go_wp2_with fail
    refine (one_calls w _ (w.heap.size + 1 + 1) 6 2 (HC2.out.up (by omega)) HB2.out (by omega)).mono ?_
    rintro e w3 ⟨z, rfl, hC3, hB3, hK3⟩
    have HC3 := Aside0.mk hC3
    have HB3 := Aside0.mk hB3
    have B23 := Aside0.mk (keep_box hK3 B22.out (by omega))
    have B33 := Aside0.mk (keep_box hK3 B32.out (by omega))
    have BS3 := Aside0.mk (keep_box hK3 BS2.out (by omega))
    have hs3 := hK3.1
    clear hC3 hB3 hK3 B22 B32 BS2 HC2 HB2
    cases z with
    | false =>
      go_wp2_with fail
      refine start_ (n := 7) (S := fun w' => w'.cell? ⟨w1.heap.size, 0, none⟩ = some (.int .i64 p) ∧ w'.cell? ⟨w1.heap.size, 1, none⟩ = some (.int .i64 s)) (ds := [5, 6]) #[false, false, false, false, false, false, false] (by kernel_rfl) rfl rfl ⟨(blk_cell BS3.out 0), (blk_cell BS3.out 1)⟩ (fun hHeld => ?_)
      refine pure_ (i := 1) (N := some 29) (v := ?_) (a' := ?_) #[false, true, false, false, false, false, false] rfl rfl (by kernel_rfl) (fun _ _ _ h => h) (Or.inl ⟨by rfl, ?_⟩) ?_ ?_
      rotate_left
      · intro w'
        go_simp
        with_reducible rfl
      rotate_left
      · simp only [Act.put, List.setIfInBounds_toArray, List.set_cons_zero, List.set_cons_succ, i64_w, i32_w]
        rfl
      refine pure_ (i := 2) (N := some 30) (v := ?_) (a' := ?_) #[false, true, true, false, false, false, false] rfl rfl (by kernel_rfl) (fun _ _ _ h => h) (Or.inl ⟨by rfl, ?_⟩) ?_ ?_
      rotate_left
      · intro w'
        go_simp
        with_reducible rfl
      rotate_left
      · simp only [Act.put, List.setIfInBounds_toArray, List.set_cons_zero, List.set_cons_succ, i64_w, i32_w]
        rfl
      refine take_ (i := 0) (N := some 28) (v := ?_) (a' := ?_) #[true, true, true, false, false, false, false] rfl rfl (by kernel_rfl) (fun _ _ _ h => h) (Or.inl ⟨by rfl, ?_⟩) hHeld ?_ ?_
      rotate_left
      · rintro w' ⟨s0, s1⟩
        go_simp
        with_reducible rfl
      rotate_left
      · simp only [Act.put, List.setIfInBounds_toArray, List.set_cons_zero, List.set_cons_succ, i64_w, i32_w]
        rfl
      refine take_ (i := 3) (N := some 31) (v := ?_) (a' := ?_) #[true, true, true, true, false, false, false] rfl rfl (by kernel_rfl) (fun _ _ _ h => h) (Or.inl ⟨by rfl, ?_⟩) hHeld ?_ ?_
      rotate_left
      · rintro w' ⟨s0, s1⟩
        go_simp
        with_reducible rfl
      rotate_left
      · simp only [Act.put, List.setIfInBounds_toArray, List.set_cons_zero, List.set_cons_succ, i64_w, i32_w]
        rfl
      refine one_ (i := 4) (N := some 32) #[true, true, true, true, true, false, false] rfl rfl (by kernel_rfl) (by decide) (fun K hK => ?_)
      refine goes_ Try.func40 (by kernel_rfl) rfl #[.pointer (some ⟨w.heap.size + 1 + 1, 0, none⟩), .int .i64 p] (by rfl) rfl rfl (by simp only [List.map_toArray, List.map_cons, List.map_nil]; rfl) ?_
      refine (chord_calls w w3.drew (w.heap.size + 1 + 1) 8 p (HC3.out.drew.up (by omega)) (below_drew HB3.out) (by omega) HP.out.2.1 HP.out.2.2).mono ?_
      rintro e w5 ⟨x, y, rfl, hx, _, hB5, hK5⟩
      refine ⟨_, rfl, ?_⟩
      have B25 := Aside0.mk (keep_box hK5 (blk_drew B23.out) (by omega))
      have B35 := Aside0.mk (keep_box hK5 (blk_drew B33.out) (by omega))
      have BS5 := Aside0.mk (keep_box hK5 (blk_drew BS3.out) (by omega))
      have HX := Aside0.mk hx
      have HB5 := Aside0.mk hB5
      clear hx hB5 hK5
      refine hK.out _ _ ⟨(blk_cell BS5.out 0), (blk_cell BS5.out 1)⟩ (fun hHeld => ?_)
      clear hK K
      refine norm_ (a' := ?_) ?_ ?_
      rotate_left
      · show Act.put _ (some 32) _ = _
        simp only [Act.put, List.setIfInBounds_toArray, List.set_cons_zero, List.set_cons_succ, i64_w, i32_w]
        rfl
      refine last_ (i := 5) (N := none) #[true, true, true, true, true, true, false] rfl rfl (by kernel_rfl) (by decide) (fun K hK => ?_)
      have k0 : w5.cell? ⟨w.heap.size, 0, none⟩ = some (.int .i64 0) := (blk_cell B25.out 0).trans rfl
      have k1 : w5.cell? ⟨w.heap.size, 1, none⟩ = some (.int .i64 0) := (blk_cell B25.out 1).trans rfl
      have f0 := blk_frozen B25.out 0
      have f1 := blk_frozen B25.out 1
      refine skip_ (w1 := ?_) (by rfl) rfl ?_ ?_
      rotate_left
      · go_simp
        rfl
      clear k0 k1 f0 f1
      refine hK.out _ _ ?_
      clear hK K
      refine last_ (i := 6) (N := none) #[true, true, true, true, true, true, true] rfl rfl (by kernel_rfl) (by decide) (fun K hK => ?_)
      have k0 : ((w5.setCell ⟨w.heap.size, 0, none⟩ (.int .i64 p)).setCell ⟨w.heap.size, 1, none⟩ (.int .i64 s)).cell? ⟨w.heap.size + 1, 0, none⟩ = some (.int .i64 0) := (blk_cell (blk_far (blk_far B35.out h23 _) h23 _) 0).trans rfl
      have k1 : ((w5.setCell ⟨w.heap.size, 0, none⟩ (.int .i64 p)).setCell ⟨w.heap.size, 1, none⟩ (.int .i64 s)).cell? ⟨w.heap.size + 1, 1, none⟩ = some (.int .i64 0) := (blk_cell (blk_far (blk_far B35.out h23 _) h23 _) 1).trans rfl
      have f0 := blk_frozen (blk_far (p := ⟨w.heap.size, 1, none⟩) (blk_far (p := ⟨w.heap.size, 0, none⟩) B35.out h23 (.int .i64 p)) h23 (.int .i64 s)) 0
      have f1 := blk_frozen (blk_far (p := ⟨w.heap.size, 1, none⟩) (blk_far (p := ⟨w.heap.size, 0, none⟩) B35.out h23 (.int .i64 p)) h23 (.int .i64 s)) 1
      refine skip_ (w1 := ?_) (by rfl) rfl ?_ ?_
      rotate_left
      · go_simp
        rfl
      clear k0 k1 f0 f1
      refine hK.out _ _ ?_
      clear hK K
      refine done_ (by kernel_rfl) ?_
      go_wp2
      refine bodyPost_ret (results_cc rfl _ _ w.heap.size (w.heap.size + 1) 25 34 #[.int .i64 p, .int .i64 s] #[.int .i64 x, .int .i64 y] (0, 0) (0, 0) _ _ rfl (blk_far (blk_far (blk_two B25.out _ _) h23.symm _) h23.symm _) Try.underlying25 rfl (by kernel_rfl) rfl (blk_two (blk_far (blk_far B35.out h23 _) h23 _) _ _) Try.underlying34 rfl (by kernel_rfl)) rfl ?_
      exact ⟨p, s, _, _, rfl, HD.out, HX.out, by repeat (first | exact HB5.out | refine below_set ?_ (by first | exact Nat.le_refl _ | exact Nat.le_succ _))⟩
    | true =>
      have hgood := of_decide_eq_true HG.out
      have hc0 : w3.cell? ⟨w1.heap.size, 0, none⟩ = some (.int .i64 p) := (blk_cell BS3.out 0).trans rfl
      have hc1 : w3.cell? ⟨w1.heap.size, 1, none⟩ = some (.int .i64 s) := (blk_cell BS3.out 1).trans rfl
      go_wp2_with fail
      clear hc0 hc1
      refine (spec_srChords.calls 1000 p s (Q.starL p s) _ (Q.srChords_eq p s (by unfold Q.isStar; omega) 1000 (by omega))).mono ?_
      rintro e w4 ⟨v6, rfl, hL, hb⟩
      have hlen := Q.starL_len p s
      have hpos := starL_pos p s (by omega)
      have HPR := Aside0.mk (Q.starL_proper p s (by unfold Q.isStar; omega))
      generalize Q.starL p s = L at hL hlen hpos HPR
      obtain ⟨gl, cl, rfl, hgl, _⟩ := Kd.R_form hL hpos
      have HL0 := (Kd.R_reads' hL).2.2
      obtain ⟨ad, had⟩ : ∃ ad : Addr, (⟨gl, 0, none⟩ : Addr) = ad := ⟨_, rfl⟩
      have HAD := Aside0.mk (show ad.block ≠ w.heap.size + 1 + 1 by rw [← had]; show gl ≠ _; omega)
      have HAD2 := Aside0.mk (show ad.block ≠ w.heap.size by rw [← had]; show gl ≠ _; omega)
      rw [had] at HL0
      rw [had]
      have HL4 := Aside0.mk (fun (W : World) (hw : Below w4.heap.size w4 W) => Kd.C_below HL0 hw)
      have HC4 := Aside0.mk (HC3.out.below hb)
      have HB4 := Aside0.mk (below_step HB3.out hb)
      have B24 := Aside0.mk (blk_below B23.out hb)
      have B34 := Aside0.mk (blk_below B33.out hb)
      have BS4 := Aside0.mk (blk_below BS3.out hb)
      have hlz : (L.length : Int) ≤ 60 := by omega
      clear hL hb had HL0 B23 B33 BS3 HC3 HB3 hgl
      go_wp2_with fail
      refine start_ (n := 10) (S := fun w' => w'.cell? ⟨w1.heap.size, 0, none⟩ = some (.int .i64 p) ∧ w'.cell? ⟨w1.heap.size, 1, none⟩ = some (.int .i64 s) ∧ ChordsAt w' ad L) (ds := [9]) #[false, false, false, false, false, false, false, false, false, false] (by kernel_rfl) rfl rfl ⟨(blk_cell BS4.out 0), (blk_cell BS4.out 1), (chordsAt_of (HL4.out _ (below_drew (Below.refl _ _))))⟩ (fun hHeld => ?_)
      refine pure_ (i := 1) (N := some 21) (v := ?_) (a' := ?_) #[false, true, false, false, false, false, false, false, false, false] rfl rfl (by kernel_rfl) (fun _ _ _ h => h) (Or.inl ⟨by rfl, ?_⟩) ?_ ?_
      rotate_left
      · intro w'
        go_simp
        with_reducible rfl
      rotate_left
      · simp only [Act.put, List.setIfInBounds_toArray, List.set_cons_zero, List.set_cons_succ, i64_w, i32_w]
        rfl
      refine pure_ (i := 2) (N := some 22) (v := ?_) (a' := ?_) #[false, true, true, false, false, false, false, false, false, false] rfl rfl (by kernel_rfl) (fun _ _ _ h => h) (Or.inl ⟨by rfl, ?_⟩) ?_ ?_
      rotate_left
      · intro w'
        go_simp
        with_reducible rfl
      rotate_left
      · simp only [Act.put, List.setIfInBounds_toArray, List.set_cons_zero, List.set_cons_succ, i64_w, i32_w]
        rfl
      refine pure_ (i := 3) (N := some 23) (v := ?_) (a' := ?_) #[false, true, true, true, false, false, false, false, false, false] rfl rfl (by kernel_rfl) (fun _ _ _ h => h) (Or.inl ⟨by rfl, ?_⟩) ?_ ?_
      rotate_left
      · intro w'
        go_simp
        with_reducible rfl
      rotate_left
      · simp only [Act.put, List.setIfInBounds_toArray, List.set_cons_zero, List.set_cons_succ, i64_w, i32_w]
        rfl
      refine pure_ (i := 4) (N := some 24) (v := ?_) (a' := ?_) #[false, true, true, true, true, false, false, false, false, false] rfl rfl (by kernel_rfl) (fun _ _ _ h => h) (Or.inl ⟨by rfl, ?_⟩) ?_ ?_
      rotate_left
      · intro w'
        go_simp
        with_reducible rfl
      rotate_left
      · simp only [Act.put, List.setIfInBounds_toArray, List.set_cons_zero, List.set_cons_succ, i64_w, i32_w]
        rfl
      refine take_ (i := 0) (N := some 20) (v := ?_) (a' := ?_) #[true, true, true, true, true, false, false, false, false, false] rfl rfl (by kernel_rfl) (fun _ _ _ h => h) (Or.inl ⟨by rfl, ?_⟩) hHeld ?_ ?_
      rotate_left
      · rintro w' ⟨s0, s1, s2⟩
        go_simp
        with_reducible rfl
      rotate_left
      · simp only [Act.put, List.setIfInBounds_toArray, List.set_cons_zero, List.set_cons_succ, i64_w, i32_w]
        rfl
      refine one_ (i := 5) (N := some 25) #[true, true, true, true, true, true, false, false, false, false] rfl rfl (by kernel_rfl) (by decide) (fun K hK => ?_)
      refine goes_ Try.func47 (by kernel_rfl) rfl #[.pointer (some ⟨w.heap.size + 1 + 1, 0, none⟩), .int .i64 (L.length : Int)] (by rfl) rfl rfl (by simp only [List.map_toArray, List.map_cons, List.map_nil]; rfl) ?_
      refine (pick_calls w w4.drew (w.heap.size + 1 + 1) 8 L.length (HC4.out.drew.up (by omega)) (below_drew HB4.out) (by omega)).mono ?_
      rintro e w5 ⟨x, rfl, ⟨hx0, hx1, _⟩, _, hB5, hK5⟩
      refine ⟨_, rfl, ?_⟩
      replace hx1 := hx1 (by omega)
      have B25 := Aside0.mk (keep_box hK5 (blk_drew B24.out) (by omega))
      have B35 := Aside0.mk (keep_box hK5 (blk_drew B34.out) (by omega))
      have BS5 := Aside0.mk (keep_box hK5 (blk_drew BS4.out) (by omega))
      have HL5 := Aside0.mk (chordsAt_keep hK5 (chordsAt_of (HL4.out _ (below_drew (Below.refl _ _)))) HAD.out)
      have HB5 := Aside0.mk hB5
      clear hB5 hK5
      refine hK.out _ _ ⟨(blk_cell BS5.out 0), (blk_cell BS5.out 1), HL5.out⟩ (fun hHeld => ?_)
      clear hK K
      refine norm_ (a' := ?_) ?_ ?_
      rotate_left
      · show Act.put _ (some 25) _ = _
        simp only [Act.put, List.setIfInBounds_toArray, List.set_cons_zero, List.set_cons_succ, i64_w, i32_w]
        rfl
      refine pure_ (i := 6) (N := some 26) (v := ?_) (a' := ?_) #[true, true, true, true, true, true, true, false, false, false] rfl rfl (by kernel_rfl) (fun _ _ _ h => h) (Or.inl ⟨by rfl, ?_⟩) ?_ ?_
      rotate_left
      · intro w'
        go_simp
        with_reducible rfl
      rotate_left
      · simp only [Act.put, List.setIfInBounds_toArray, List.set_cons_zero, List.set_cons_succ, i64_w, i32_w]
        rfl
      refine take_ (i := 7) (N := some 27) (v := ?_) (a' := ?_) #[true, true, true, true, true, true, true, true, false, false] rfl rfl (by kernel_rfl) (fun _ _ _ h => h) (Or.inl ⟨by rfl, ?_⟩) hHeld ?_ ?_
      rotate_left
      · rintro w' ⟨s0, s1, s2⟩
        obtain ⟨m0, m1⟩ := s2 x hx0 hx1
        clear s2
        go_simp
        with_reducible rfl
      rotate_left
      · simp only [Act.put, List.setIfInBounds_toArray, List.set_cons_zero, List.set_cons_succ, i64_w, i32_w]
        rfl
      refine one_ (i := 8) (N := none) #[true, true, true, true, true, true, true, true, true, false] rfl rfl (by kernel_rfl) (by decide) (fun K hK => ?_)
      have k0 : w5.cell? ⟨w.heap.size, 0, none⟩ = some (.int .i64 0) := (blk_cell B25.out 0).trans rfl
      have k1 : w5.cell? ⟨w.heap.size, 1, none⟩ = some (.int .i64 0) := (blk_cell B25.out 1).trans rfl
      have f0 := blk_frozen B25.out 0
      have f1 := blk_frozen B25.out 1
      refine skip_ (w1 := ?_) (by rfl) rfl ?_ ?_
      rotate_left
      · go_simp
        rfl
      clear k0 k1 f0 f1
      refine hK.out _ _ ⟨(blk_cell (blk_far (blk_far BS5.out (by simp; omega) _) (by simp; omega) _) 0), (blk_cell (blk_far (blk_far BS5.out (by simp; omega) _) (by simp; omega) _) 1), (chordsAt_far (chordsAt_far HL5.out HAD2.out _) HAD2.out _)⟩ (fun hHeld => ?_)
      clear hK K
      refine last_ (i := 9) (N := none) #[true, true, true, true, true, true, true, true, true, true] rfl rfl (by kernel_rfl) (by decide) (fun K hK => ?_)
      have k0 : ((w5.setCell ⟨w.heap.size, 0, none⟩ (.int .i64 p)).setCell ⟨w.heap.size, 1, none⟩ (.int .i64 s)).cell? ⟨w.heap.size + 1, 0, none⟩ = some (.int .i64 0) := (blk_cell (blk_far (blk_far B35.out h23 _) h23 _) 0).trans rfl
      have k1 : ((w5.setCell ⟨w.heap.size, 0, none⟩ (.int .i64 p)).setCell ⟨w.heap.size, 1, none⟩ (.int .i64 s)).cell? ⟨w.heap.size + 1, 1, none⟩ = some (.int .i64 0) := (blk_cell (blk_far (blk_far B35.out h23 _) h23 _) 1).trans rfl
      have f0 := blk_frozen (blk_far (p := ⟨w.heap.size, 1, none⟩) (blk_far (p := ⟨w.heap.size, 0, none⟩) B35.out h23 (.int .i64 p)) h23 (.int .i64 s)) 0
      have f1 := blk_frozen (blk_far (p := ⟨w.heap.size, 1, none⟩) (blk_far (p := ⟨w.heap.size, 0, none⟩) B35.out h23 (.int .i64 p)) h23 (.int .i64 s)) 1
      refine skip_ (w1 := ?_) (by rfl) rfl ?_ ?_
      rotate_left
      · go_simp
        rfl
      clear k0 k1 f0 f1
      refine hK.out _ _ ?_
      clear hK K
      refine done_ (by kernel_rfl) ?_
      go_wp2
      refine bodyPost_ret (results_cc rfl _ _ w.heap.size (w.heap.size + 1) 25 34 #[.int .i64 p, .int .i64 s] #[.int .i64 (rd_T34 L x).f0, .int .i64 (rd_T34 L x).f1] (0, 0) (0, 0) _ _ rfl (blk_far (blk_far (blk_two B25.out _ _) h23.symm _) h23.symm _) Try.underlying25 rfl (by kernel_rfl) rfl (blk_two (blk_far (blk_far B35.out h23 _) h23 _) _ _) Try.underlying34 rfl (by kernel_rfl)) rfl ?_
      exact ⟨p, s, _, _, rfl, HD.out, Or.inr (by have hz := HPR.out _ (rdT_mem L x hx0 hx1); unfold Q.Proper at hz; omega), by repeat (first | exact HB5.out | refine below_set ?_ (by first | exact Nat.le_refl _ | exact Nat.le_succ _))⟩
end Go.Proofs.Ytnjocighalandaa.X
end
section
namespace Go.Proofs.Ytnjocighalandaa.X
open Go.RowKit Go.Proofs.YtnjocighalandaaW.PrintWords Go.Proofs.YtnjocighalandaaW.PrintLast Go.Proofs.YtnjocighalandaaW.PrintMore
attribute [local go_sem] max2_int min2_int max_two min_two max_three min_three max_four min_four
set_option linter.unusedVariables false
set_option linter.unusedSimpArgs false
structure StarOk (n s : Int) (L : List S34) (cnt : Int) (sm cx : Nat → Int) (small : Int) : Prop where
  hn : 3 ≤ n ∧ n ≤ 60 ∧ 1 ≤ s ∧ s < n
  on : ∀ i : Nat, i < L.length → impl_CrossingsOn.f 10000 n s (rd_T34 L i).f0 (rd_T34 L i).f1 = some (cx i, true) ∧ sm (i + 1) = sm i + cx i ∧ -1000000 ≤ cx i ∧ cx i ≤ 1000000 ∧ -1000000 ≤ sm i ∧ sm i ≤ 1000000
  ord : ∀ i : Nat, i < L.length → (rd_T34 L i).f0 < (rd_T34 L i).f1 ∧ (0 < i → (rd_T34 L ((i - 1 : Nat) : Int)).f0 < (rd_T34 L i).f0 ∨ ((rd_T34 L ((i - 1 : Nat) : Int)).f0 = (rd_T34 L i).f0 ∧ (rd_T34 L ((i - 1 : Nat) : Int)).f1 < (rd_T34 L i).f1))
  s0 : sm 0 = 0
  sl : sm L.length = 2 * cnt
  cb : 0 ≤ cnt ∧ cnt ≤ 1000000
  sst : impl_SmallStep.f n s = some (small, true)
  sb : 0 ≤ small ∧ small ≤ 60
  other : impl_ChordsOf.f 10000 n (n - s) = some (L, true)
  full : 2 * small < n → (L.length : Int) = n ∧ cnt = n * (small - 1)
  half : ¬ 2 * small < n → (L.length : Int) = small ∧ cnt = wrap64 ((wrap64 (small * (small - 1))).tdiv 2)
structure StarVal (n s : Int) (L : List S34) (b : Bool) (cnt : Int) : Prop where
  len : L.length ≤ 60
  ci : impl_ChordsOf.f 10000 n s = some (L, b)
  cs : spec_ChordsOf.f 10000 n s = some (L, b)
  ni : impl_CountCrossings.f 10000 n s = some (cnt, b)
  ns : spec_CountCrossings.f 10000 n s = some (cnt, b)
  uu : laws_uChords.f 10000 L L = some true
structure TwoOk (p a b c d : Int) (x y : Bool) : Prop where
  ii : impl_AreCrossing.f p a b c d = some (x, y)
  ss : spec_AreCrossing.f p a b c d = some (x, y)
  back : y = true → impl_AreCrossing.f p c d a b = some (x, true)
  apart : y = true → x = true → a ≠ c ∧ a ≠ d ∧ b ≠ c ∧ b ≠ d
structure TurnOk (n s x : Int) (T : List S34) (y : Bool) : Prop where
  len : T.length ≤ 60
  ii : impl_TurnedStar.f 10000 n s x = some (T, y)
  ss : spec_TurnedStar.f 10000 n s x = some (T, y)
  uu : laws_uChords.f 10000 T T = some true
  same : y = true → impl_ChordsOf.f 10000 n s = some (T, true)
structure ListOk (n : Int) (A B : List Int) (y : Bool) (str : Nat → Int) : Prop where
  len : A.length ≤ 60 ∧ B.length ≤ 60
  ii : impl_StarsOf.f n = some (A, y)
  ss : spec_StarsOf.f 10000 n = some (A, y)
  oi : impl_OneString.f n = some (B, y)
  os : spec_OneString.f 10000 n = some (B, y)
  ua : laws_uSame.f 10000 A A = some true
  ub : laws_uSame.f 10000 B B = some true
  nb : -1 ≤ n ∧ n ≤ 61
  ra : y = true → laws_uRises.f 10000 A = some true
  rb : y = true → laws_uRises.f 10000 B = some true
  half : y = true → (A.length : Int) = n / 2 ∧ 0 ≤ n
  one : y = true → ∀ i : Nat, i < A.length → impl_CountStrings.f 10000 n (rd A i) = some (str i, true) ∧ laws_uHas.f 10000 B (rd A i) = some (str i == 1)
end Go.Proofs.Ytnjocighalandaa.X
end
section
namespace Go.Proofs.Ytnjocighalandaa.Q
open Go.RowKit Go.Proofs.Ytnjocighalandaa.X Go.Proofs.YtnjocighalandaaW.PrintWords Go.Proofs.YtnjocighalandaaW.PrintLast Go.Proofs.YtnjocighalandaaW.PrintMore
set_option linter.unusedVariables false
set_option linter.unusedSimpArgs false
def crossB (c d : S34) : Bool := spec_srCross.b c.f0 c.f1 d.f0 d.f1
theorem srCross_cross (c d : S34) : spec_srCross.f c.f0 c.f1 d.f0 d.f1 = some (crossB c d) := rfl
theorem crossB_iff (n : Int) (c d : S34) (hc : Proper n c) (hd : Proper n d) : crossB c d = true ↔ (c.f0 < d.f0 ∧ d.f0 < c.f1 ∧ c.f1 < d.f1) ∨ (d.f0 < c.f0 ∧ c.f0 < d.f1 ∧ d.f1 < c.f1) := by
  unfold Proper at hc hd
  unfold crossB spec_srCross.b
  simp only [Bool.and_eq_true, Bool.not_eq_true', Bool.or_eq_false_iff, beq_eq_false_iff_ne, bne_iff_ne, ne_eq, ← Bool.decide_and]
  rw [decide_eq_decide]
  omega
theorem crossing_eq (n : Int) (c d : S34) (hc : Proper n c) (hd : Proper n d) : impl_crossing.f c.f0 c.f1 d.f0 d.f1 = some (crossB c d) := by
  have h := crossB_iff n c d hc hd
  unfold Proper at hc hd
  unfold impl_crossing.f
  by_cases e : crossB c d = true
  · have h1 := h.1 e
    rw [e]
    rcases h1 with h1 | h1
    · rw [if_pos (by omega), if_pos (by omega), if_pos (by omega)]
    · rw [if_neg (by omega), if_pos (by omega), if_pos (by omega), decide_eq_true (by omega)]
  · have h1 : ¬ ((c.f0 < d.f0 ∧ d.f0 < c.f1 ∧ c.f1 < d.f1) ∨ (d.f0 < c.f0 ∧ c.f0 < d.f1 ∧ d.f1 < c.f1)) := fun x => e (h.2 x)
    rw [Bool.eq_false_iff.2 e]
    repeat' split
    all_goals first | rfl | (exfalso; omega) | (refine congrArg some (decide_eq_false ?_); omega)
theorem crossB_symm (n : Int) (c d : S34) (hc : Proper n c) (hd : Proper n d) : crossB c d = crossB d c := by
  rw [Bool.eq_iff_iff, crossB_iff n c d hc hd, crossB_iff n d c hd hc]
  omega
def countX (c : S34) (l : List S34) : Nat := l.countP (crossB c)
theorem crossed_loop (n : Int) (c : S34) (hc : Proper n c) (m : List S34) : ∀ (k : Nat) (pre : List S34) (cnt : Int), (∀ x ∈ m, Proper n x) → pre.length + m.length ≤ 1000000 → 0 ≤ cnt → cnt + m.length ≤ 4611686018427387904 → m.length < k →
    impl_crossed.l0 k cnt (pre ++ m) ((pre ++ m).length : Int) pre.length c.f0 c.f1 = some (cnt + countX c m) := by
  induction m with
  | nil =>
    intro k pre cnt _ hl h0 h1 hk
    obtain ⟨k, rfl⟩ : ∃ t, k = t + 1 := ⟨k - 1, by omega⟩
    simp only [impl_crossed.l0, List.append_nil]
    rw [if_neg (by omega)]
    simp [countX]
  | cons x m ih =>
    intro k pre cnt hp hl h0 h1 hk
    obtain ⟨k, rfl⟩ : ∃ t, k = t + 1 := ⟨k - 1, by omega⟩
    simp only [List.length_cons] at hl h1 hk
    have hlen : ((pre ++ x :: m).length : Int) = pre.length + m.length + 1 := by simp; omega
    simp only [impl_crossed.l0]
    rw [if_pos (by omega), if_pos (by omega), if_pos (by omega), rdC_append, crossing_eq n c x hc (hp x (by simp))]
    simp only [Option.bind_some]
    have IH := fun cnt h0 h1 => ih k (pre ++ [x]) cnt (fun y hy => hp y (by simp [hy])) (by simp; omega) h0 h1 (by omega)
    simp only [List.append_assoc, List.cons_append, List.nil_append] at IH
    have hpl : (((pre ++ [x]).length : Nat) : Int) = (pre.length : Int) + 1 := by simp
    rw [hpl] at IH
    rw [wrap64_id (x := cnt + 1) (by omega) (by omega), wrap64_id (by omega) (by omega)]
    unfold countX at IH ⊢
    by_cases e : crossB c x = true
    · rw [if_pos e, IH (cnt + 1) (by omega) (by omega), List.countP_cons_of_pos e]
      congr 1; omega
    · rw [if_neg e, IH cnt (by omega) (by omega), List.countP_cons_of_neg e]
theorem crossed_eq (n : Int) (c : S34) (hc : Proper n c) (m : List S34) (hm : ∀ x ∈ m, Proper n x) (hl : m.length ≤ 1000000) (k : Nat) (hk : m.length < k) : impl_crossed.f k m c.f0 c.f1 = some (countX c m : Int) := by
  unfold impl_crossed.f
  have := crossed_loop n c hc m k [] 0 hm (by simpa using hl) (by omega) (by omega) hk
  simpa using this
theorem countX_le (c : S34) (l : List S34) : countX c l ≤ l.length := List.countP_le_length
def pairsX : List S34 → Nat
  | [] => 0
  | x :: l => countX x l + pairsX l
theorem pairsX_snoc (n : Int) (x : S34) (hx : Proper n x) : ∀ (l : List S34), (∀ y ∈ l, Proper n y) → pairsX (l ++ [x]) = pairsX l + countX x l
  | [], _ => by simp [pairsX, countX]
  | y :: l, h => by
    have ih := pairsX_snoc n x hx l (fun z hz => h z (by simp [hz]))
    simp only [List.cons_append, pairsX, ih]
    have e := crossB_symm n x y hx (h y (by simp))
    unfold countX
    rw [List.countP_append, List.countP_cons, List.countP_cons, e]
    simp only [List.countP_nil, Nat.zero_add]
    omega
theorem pairsX_le : ∀ (l : List S34), pairsX l ≤ l.length * l.length
  | [] => by simp [pairsX]
  | x :: l => by
    have h1 := pairsX_le l
    have h2 := countX_le x l
    simp only [pairsX, List.length_cons]
    rw [Nat.add_mul, Nat.mul_add]
    omega
end Go.Proofs.Ytnjocighalandaa.Q
end
section
namespace Go.Proofs.Ytnjocighalandaa.Q
open Go.RowKit Go.Proofs.Ytnjocighalandaa.X Go.Proofs.YtnjocighalandaaW.PrintWords Go.Proofs.YtnjocighalandaaW.PrintLast Go.Proofs.YtnjocighalandaaW.PrintMore
set_option linter.unusedVariables false
set_option linter.unusedSimpArgs false
def isCh (n a b : Int) : Prop := 0 ≤ a ∧ a < b ∧ b < n
instance (n a b : Int) : Decidable (isCh n a b) := by unfold isCh; infer_instance
theorem srIs_eq (n a b : Int) (hn : 3 ≤ n ∧ n ≤ 60) : spec_srIs.f n a b = some (decide (isCh n a b)) := by
  unfold spec_srIs.f
  rw [wrap64_id (by omega) (by omega), l1In_eq]
  simp only [Option.bind_some]
  by_cases h : 0 ≤ a ∧ a ≤ n - 1
  · rw [if_pos (decide_eq_true h), l1In_eq, wrap64_id (by omega) (by omega)]
    simp only [Option.bind_some]
    refine congrArg some (decide_eq_decide.2 ?_)
    unfold isCh
    omega
  · rw [if_neg (by simpa using h)]
    refine congrArg some (decide_eq_false ?_).symm
    unfold isCh
    omega
theorem implIsChord_eq (n a b : Int) : impl_isChord.f n a b = some (decide (isCh n a b)) := by
  unfold impl_isChord.f
  by_cases h1 : a ≥ 0
  · rw [if_pos h1]
    by_cases h2 : a < b
    · rw [if_pos h2]
      refine congrArg some (decide_eq_decide.2 ?_)
      unfold isCh
      omega
    · rw [if_neg h2]
      refine congrArg some (decide_eq_false ?_).symm
      unfold isCh
      omega
  · rw [if_neg h1]
    refine congrArg some (decide_eq_false ?_).symm
    unfold isCh
    omega
end Go.Proofs.Ytnjocighalandaa.Q
end
section
namespace Go.Proofs.Ytnjocighalandaa.Q
open Go.RowKit Go.Proofs.Ytnjocighalandaa.X Go.Proofs.YtnjocighalandaaW.PrintWords Go.Proofs.YtnjocighalandaaW.PrintLast Go.Proofs.YtnjocighalandaaW.PrintMore
set_option linter.unusedVariables false
set_option linter.unusedSimpArgs false
theorem crossings_loop (n : Int) (m : List S34) : ∀ (k : Nat) (pre : List S34), (∀ x ∈ pre ++ m, Proper n x) → pre.length + m.length ≤ 1000000 → pre.length + m.length + m.length < k →
    impl_crossings.l0 k (pre ++ m) (pairsX pre) (pre ++ m) ((pre ++ m).length : Int) pre.length = some (pairsX (pre ++ m) : Int) := by
  induction m with
  | nil =>
    intro k pre hp hl hk
    obtain ⟨k, rfl⟩ : ∃ t, k = t + 1 := ⟨k - 1, by omega⟩
    simp only [impl_crossings.l0, List.append_nil]
    rw [if_neg (by omega)]
  | cons x m ih =>
    intro k pre hp hl hk
    obtain ⟨k, rfl⟩ : ∃ t, k = t + 1 := ⟨k - 1, by omega⟩
    simp only [List.length_cons] at hl hk
    have hlen : ((pre ++ x :: m).length : Int) = pre.length + m.length + 1 := by simp; omega
    simp only [impl_crossings.l0]
    have hpre : ∀ y ∈ pre, Proper n y := fun y hy => hp y (by simp [hy])
    have hx : Proper n x := hp x (by simp)
    rw [if_pos (by omega), if_pos (by omega), if_pos (by omega), if_pos (by omega), rdC_append, Int.toNat_natCast, List.take_left, crossed_eq n x hx pre hpre (by omega) k (by omega)]
    simp only [Option.bind_some]
    have h1 := pairsX_le pre
    have h2 := countX_le x pre
    have h3 : pre.length * pre.length ≤ 1000000 * 1000000 := Nat.mul_le_mul (by omega) (by omega)
    have IH := ih k (pre ++ [x]) (by simpa using hp) (by simp; omega) (by simp; omega)
    rw [pairsX_snoc n x hx pre hpre] at IH
    simp only [List.append_assoc, List.cons_append, List.nil_append] at IH
    have hpl : (((pre ++ [x]).length : Nat) : Int) = (pre.length : Int) + 1 := by simp
    rw [hpl, Int.natCast_add] at IH
    rw [wrap64_id (by omega) (by omega), wrap64_id (by omega) (by omega)]
    exact IH
theorem crossings_eq (n : Int) (l : List S34) (h : ∀ x ∈ l, Proper n x) (hl : l.length ≤ 1000000) (k : Nat) (hk : l.length + l.length < k) : impl_crossings.f k l = some (pairsX l : Int) := by
  unfold impl_crossings.f
  have := crossings_loop n l k [] (by simpa using h) (by simpa using hl) (by simpa using hk)
  simpa [pairsX] using this
end Go.Proofs.Ytnjocighalandaa.Q
end
section
namespace Go.Proofs.Ytnjocighalandaa.Q
open Go.RowKit Go.Proofs.Ytnjocighalandaa.X Go.Proofs.YtnjocighalandaaW.PrintWords Go.Proofs.YtnjocighalandaaW.PrintLast Go.Proofs.YtnjocighalandaaW.PrintMore
set_option linter.unusedVariables false
set_option linter.unusedSimpArgs false
theorem srCount_inner (l : List S34) (i : Int) (c : S34) (mid : List S34) (m : List S34) : ∀ (k : Nat) (pre : List S34) (cnt : Int) (r : Option Int), pre ++ m = mid → mid.length ≤ 1000000 → 0 ≤ cnt → cnt + m.length ≤ 4611686018427387904 → m.length < k →
    (∀ k', k ≤ k' + m.length + 1 → k' < k → spec_srCount.l0 k' l (cnt + countX c m) l (l.length : Int) (wrap64 (i + 1)) = r) →
    spec_srCount.l1 k l cnt l (l.length : Int) i mid (mid.length : Int) pre.length c.f0 c.f1 = r := by
  induction m with
  | nil =>
    intro k pre cnt r e hl h0 h1 hk hr
    obtain ⟨k, rfl⟩ : ∃ t, k = t + 1 := ⟨k - 1, by omega⟩
    rw [List.append_nil] at e
    subst e
    simp only [spec_srCount.l1]
    rw [if_neg (by omega)]
    simpa [countX] using hr k (by simp) (by omega)
  | cons x m ih =>
    intro k pre cnt r e hl h0 h1 hk hr
    obtain ⟨k, rfl⟩ : ∃ t, k = t + 1 := ⟨k - 1, by omega⟩
    simp only [List.length_cons] at h1 hk hr
    have hlen : (mid.length : Int) = pre.length + m.length + 1 := by rw [← e]; simp; omega
    simp only [spec_srCount.l1]
    have hx : rd_T34 mid (pre.length : Int) = x := by rw [← e]; exact rdC_append pre m x
    rw [if_pos (by omega), if_pos (by omega), if_pos (by omega), hx, srCross_cross]
    simp only [Option.bind_some]
    have hpl : (((pre ++ [x]).length : Nat) : Int) = (pre.length : Int) + 1 := by simp
    have IH := fun cnt h0 h1 hr => ih k (pre ++ [x]) cnt r (by simpa using e) hl h0 h1 (by omega) hr
    rw [hpl] at IH
    rw [wrap64_id (x := cnt + 1) (by omega) (by omega), wrap64_id (x := (pre.length : Int) + 1) (by omega) (by omega)]
    by_cases eX : crossB c x = true
    · rw [if_pos eX]
      refine IH (cnt + 1) (by omega) (by omega) (fun k' h1 h2 => ?_)
      have := hr k' (by omega) (by omega)
      unfold countX at this ⊢
      rw [List.countP_cons_of_pos eX] at this
      rw [← this]
      congr 1
      omega
    · rw [if_neg eX]
      refine IH cnt (by omega) (by omega) (fun k' h1 h2 => ?_)
      have := hr k' (by omega) (by omega)
      unfold countX at this ⊢
      rw [List.countP_cons_of_neg eX] at this
      exact this
theorem srCount_loop (l : List S34) (hl : l.length ≤ 10000) (m : List S34) : ∀ (k : Nat) (pre : List S34) (cnt : Int), pre ++ m = l → 0 ≤ cnt → cnt + m.length * 10000 ≤ 4611686018427387904 → m.length * (l.length + 3) < k →
    spec_srCount.l0 k l cnt l (l.length : Int) pre.length = some (cnt + pairsX m) := by
  induction m with
  | nil =>
    intro k pre cnt e h0 h1 hk
    obtain ⟨k, rfl⟩ : ∃ t, k = t + 1 := ⟨k - 1, by omega⟩
    rw [List.append_nil] at e
    simp only [spec_srCount.l0]
    rw [if_neg (by rw [e]; omega)]
    simp [pairsX]
  | cons x m ih =>
    intro k pre cnt e h0 h1 hk
    obtain ⟨k, rfl⟩ : ∃ t, k = t + 1 := ⟨k - 1, by omega⟩
    have hlen : (l.length : Int) = pre.length + m.length + 1 := by rw [← e]; simp; omega
    simp only [spec_srCount.l0]
    have hx : rd_T34 l (pre.length : Int) = x := by rw [← e]; exact rdC_append pre m x
    rw [wrap64_id (x := (pre.length : Int) + 1) (by omega) (by omega), if_pos (by omega), if_pos (by omega), if_pos (by omega), if_pos (by omega), if_pos (by omega), hx]
    simp only [Option.bind_some]
    have hdrop : l.drop (((pre.length : Int) + 1).toNat) = m := by
      rw [show ((pre.length : Int) + 1).toNat = pre.length + 1 by omega, ← e, ← List.drop_drop, List.drop_left]
      rfl
    rw [hdrop]
    simp only [List.length_cons] at h1 hk
    have hmul : (m.length + 1) * (l.length + 3) = m.length * (l.length + 3) + (l.length + 3) := by rw [Nat.add_mul, Nat.one_mul]
    have hin := srCount_inner l pre.length x m m k [] cnt (some (cnt + pairsX (x :: m))) rfl (by omega) h0 (by omega) (by omega) (fun k' h2 h3 => by
      have h4 := countX_le x m
      have := ih k' (pre ++ [x]) (cnt + countX x m) (by simpa using e) (by omega) (by omega) (by omega)
      have hpl : (((pre ++ [x]).length : Nat) : Int) = (pre.length : Int) + 1 := by simp
      rw [hpl] at this
      rw [wrap64_id (by omega) (by omega), this]
      simp only [pairsX]
      congr 1
      omega)
    simpa using hin
theorem srCount_eq (l : List S34) (hl : l.length ≤ 10000) (k : Nat) (hk : l.length * (l.length + 3) < k) : spec_srCount.f k l = some (pairsX l : Int) := by
  unfold spec_srCount.f
  have := srCount_loop l hl l k [] 0 rfl (by omega) (by omega) hk
  simpa using this
end Go.Proofs.Ytnjocighalandaa.Q
end
section
namespace Go.Proofs.Ytnjocighalandaa.Q
open Go.RowKit Go.Proofs.Ytnjocighalandaa.X Go.Proofs.YtnjocighalandaaW.PrintWords Go.Proofs.YtnjocighalandaaW.PrintLast Go.Proofs.YtnjocighalandaaW.PrintMore
set_option linter.unusedVariables false
set_option linter.unusedSimpArgs false
theorem srAsked_eq (p s a : Int) : spec_srAsked.f p s a = some (decide (isStar p s ∧ 0 ≤ a ∧ a < p)) := by
  unfold spec_srAsked.f
  rw [srGood_eq]
  simp only [Option.bind_some]
  by_cases h : isStar p s
  · rw [if_pos (decide_eq_true h), l1In_eq]
    have h' := h
    unfold isStar at h'
    rw [wrap64_id (by omega) (by omega)]
    simp only [Option.bind_some]
    refine congrArg some (decide_eq_decide.2 ?_)
    constructor
    · rintro ⟨x, y⟩; exact ⟨h, x, by omega⟩
    · rintro ⟨_, x, y⟩; exact ⟨x, by omega⟩
  · rw [if_neg (by simpa using h)]
    exact congrArg some (decide_eq_false (fun x => h x.1)).symm
theorem isPoint_eq1 (p s a : Int) : impl_isPoint.f p s [a] = some (decide (isStar p s ∧ 0 ≤ a ∧ a < p)) := by
  unfold impl_isPoint.f impl_isPoint.b
  rw [if_pos (by simp)]
  refine congrArg some ?_
  rw [Bool.eq_iff_iff, decide_eq_true_eq]
  unfold isStar
  simp
end Go.Proofs.Ytnjocighalandaa.Q
end
section
namespace Go.Proofs.Ytnjocighalandaa.Q
open Go.RowKit Go.Proofs.Ytnjocighalandaa.X Go.Proofs.YtnjocighalandaaW.PrintWords Go.Proofs.YtnjocighalandaaW.PrintLast Go.Proofs.YtnjocighalandaaW.PrintMore
set_option linter.unusedVariables false
set_option linter.unusedSimpArgs false
def turnC (n t : Int) (c : S34) : S34 := mkC ((c.f0 + t) % n) ((c.f1 + t) % n)
theorem turn_tmod (n t x : Int) (hn : 3 ≤ n ∧ n ≤ 60) (ht : 0 ≤ t ∧ t < n) (hx : 0 ≤ x ∧ x < n) : Int.tmod (wrap64 (x + t)) n = (x + t) % n := by
  rw [wrap64_id (by omega) (by omega), Int.tmod_eq_emod_of_nonneg (by omega)]
theorem turned_loop (n t : Int) (hn : 3 ≤ n ∧ n ≤ 60) (ht : 0 ≤ t ∧ t < n) (m : List S34) : ∀ (k : Nat) (pre acc : List S34), (∀ x ∈ m, Proper n x) → pre.length + m.length ≤ 1000 → acc.length = pre.length → m.length < k →
    impl_turned.l0 k n t acc (pre ++ m) ((pre ++ m).length : Int) pre.length = some (ordL (acc ++ m.map (turnC n t))) := by
  induction m with
  | nil =>
    intro k pre acc _ hl ha hk
    obtain ⟨k, rfl⟩ : ∃ t, k = t + 1 := ⟨k - 1, by omega⟩
    simp only [List.length_nil, Nat.add_zero] at hl
    simp only [impl_turned.l0, List.append_nil, List.map_nil]
    rw [if_neg (by omega), ordered_eq acc (by omega)]
    rfl
  | cons x m ih =>
    intro k pre acc hp hl ha hk
    obtain ⟨k, rfl⟩ : ∃ t, k = t + 1 := ⟨k - 1, by omega⟩
    simp only [List.length_cons] at hl hk
    have hlen : ((pre ++ x :: m).length : Int) = pre.length + m.length + 1 := by simp; omega
    simp only [impl_turned.l0, List.map_cons]
    have hx := hp x (by simp)
    have hx' := hx
    unfold Proper at hx'
    rw [if_pos (by omega), if_pos (by omega), if_pos (by omega), if_neg (by omega), rdC_append, turn_tmod n t _ hn ht (by omega), turn_tmod n t _ hn ht (by omega), implChord_eq]
    simp only [Option.bind_some]
    rw [if_pos (by omega), wrap64_id (by omega) (by omega)]
    have IH := ih k (pre ++ [x]) (acc ++ [turnC n t x]) (fun y hy => hp y (by simp [hy])) (by simp; omega) (by simp [ha]) (by omega)
    simp only [List.append_assoc, List.cons_append, List.nil_append] at IH
    have hpl : (((pre ++ [x]).length : Nat) : Int) = (pre.length : Int) + 1 := by simp
    rw [hpl] at IH
    exact IH
theorem turned_eq (n t : Int) (hn : 3 ≤ n ∧ n ≤ 60) (ht : 0 ≤ t ∧ t < n) (m : List S34) (hm : ∀ x ∈ m, Proper n x) (hl : m.length ≤ 1000) (k : Nat) (hk : m.length < k) : impl_turned.f k n m t = some (ordL (m.map (turnC n t))) := by
  unfold impl_turned.f
  have := turned_loop n t hn ht m k [] [] hm (by simpa using hl) rfl hk
  simpa using this
end Go.Proofs.Ytnjocighalandaa.Q
end
section
namespace Go.Proofs.Ytnjocighalandaa.Q
open Go.RowKit Go.Proofs.Ytnjocighalandaa.X Go.Proofs.YtnjocighalandaaW.PrintWords Go.Proofs.YtnjocighalandaaW.PrintLast Go.Proofs.YtnjocighalandaaW.PrintMore
set_option linter.unusedVariables false
set_option linter.unusedSimpArgs false
theorem common_same : ∀ (k : Nat) (a b : Int), spec_srCommon.l0 k a b = impl_divisor.l0 k a b
  | 0, _, _ => by simp only [spec_srCommon.l0, impl_divisor.l0]
  | k + 1, a, b => by simp only [spec_srCommon.l0, impl_divisor.l0, common_same k]
theorem gcd_emod_swap (a b : Int) : Int.gcd b (a % b) = Int.gcd a b := by
  rw [Int.gcd_comm a b, Int.emod_def, show a - b * (a / b) = a + (-(a / b)) * b by rw [Int.sub_eq_add_neg, Int.neg_mul, Int.mul_comm b], Int.gcd_add_mul_right_right]
theorem divisor_gcd (d : Nat) : ∀ (k : Nat) (a b : Int), 0 ≤ a → 0 ≤ b → b.toNat ≤ d → d < k → impl_divisor.l0 k a b = some ((Int.gcd a b : Nat) : Int) := by
  induction d with
  | zero =>
    intro k a b ha hb hd hk
    obtain ⟨k, rfl⟩ : ∃ m, k = m + 1 := ⟨k - 1, by omega⟩
    obtain rfl : b = 0 := by omega
    simp only [impl_divisor.l0]
    rw [if_neg (by omega)]
    simp [Int.gcd]
    omega
  | succ d ih =>
    intro k a b ha hb hd hk
    obtain ⟨k, rfl⟩ : ∃ m, k = m + 1 := ⟨k - 1, by omega⟩
    simp only [impl_divisor.l0]
    by_cases h : b > 0
    · rw [if_pos h, if_neg (by omega)]
      have hm : Int.tmod a b = a % b := Int.tmod_eq_emod_of_nonneg ha
      rw [hm]
      have h1 := Int.emod_nonneg a (show b ≠ 0 by omega)
      have h2 := Int.emod_lt_of_pos a h
      rw [ih k b (a % b) hb h1 (by omega) (by omega)]
      rw [gcd_emod_swap]
    · obtain rfl : b = 0 := by omega
      rw [if_neg h]
      simp [Int.gcd]
      omega
theorem divisor_eq (k : Nat) (a b : Int) (ha : 0 ≤ a) (hb : 0 ≤ b) (hk : b.toNat < k) : impl_divisor.f k a b = some ((Int.gcd a b : Nat) : Int) := by
  unfold impl_divisor.f; exact divisor_gcd b.toNat k a b ha hb (Nat.le_refl _) hk
theorem common_eq (k : Nat) (a b : Int) (ha : 0 ≤ a) (hb : 0 ≤ b) (hk : b.toNat < k) : spec_srCommon.f k a b = some ((Int.gcd a b : Nat) : Int) := by
  unfold spec_srCommon.f; rw [common_same]; exact divisor_gcd b.toNat k a b ha hb (Nat.le_refl _) hk
theorem strings_eq (k : Nat) (a b : Int) (ha : 0 ≤ a) (hb : 0 ≤ b) (hk : b.toNat < k) : impl_Star_strings.f k a b = some ((Int.gcd a b : Nat) : Int) := by
  unfold impl_Star_strings.f; rw [divisor_eq k a b ha hb hk]; rfl
end Go.Proofs.Ytnjocighalandaa.Q
end
section
namespace Go.Proofs.Ytnjocighalandaa.X
open Go.RowKit Go.Proofs.YtnjocighalandaaW.PrintWords Go.Proofs.YtnjocighalandaaW.PrintLast Go.Proofs.YtnjocighalandaaW.PrintMore
attribute [local go_sem] max2_int min2_int max_two min_two max_three min_three max_four min_four
set_option linter.unusedVariables false
set_option linter.unusedSimpArgs false
open Go.Proofs.Ytnjocighalandaa.Q
theorem uChords_self (l : List S34) (hl : l.length ≤ 9000) : laws_uChords.f 10000 l l = some true := by
  have h : ∀ (d k : Nat) (i : Int), 0 ≤ i → i ≤ l.length → (l.length : Int) - i = d → d < k → laws_uChords.l0 k l l (l.length : Int) i = some true := by
    intro d
    induction d with
    | zero =>
      intro k i h0 h1 hd hk
      obtain ⟨k, rfl⟩ : ∃ m, k = m + 1 := ⟨k - 1, by omega⟩
      simp only [laws_uChords.l0]
      rw [if_neg (by omega)]
    | succ d ih =>
      intro k i h0 h1 hd hk
      obtain ⟨k, rfl⟩ : ∃ m, k = m + 1 := ⟨k - 1, by omega⟩
      simp only [laws_uChords.l0]
      rw [if_pos (by omega), if_pos (by omega), if_pos (by omega), if_pos (by omega), if_neg (by simp), wrap64_id (by omega) (by omega)]
      exact ih k (i + 1) (by omega) (by omega) (by omega) (by omega)
  unfold laws_uChords.f
  rw [if_pos rfl]
  exact h l.length 10000 0 (by omega) (by omega) (by omega) (by omega)
theorem uSame_self (l : List Int) (hl : l.length ≤ 9000) : laws_uSame.f 10000 l l = some true := by
  have h : ∀ (d k : Nat) (i : Int), 0 ≤ i → i ≤ l.length → (l.length : Int) - i = d → d < k → laws_uSame.l0 k l l (l.length : Int) i = some true := by
    intro d
    induction d with
    | zero =>
      intro k i h0 h1 hd hk
      obtain ⟨k, rfl⟩ : ∃ m, k = m + 1 := ⟨k - 1, by omega⟩
      simp only [laws_uSame.l0]
      rw [if_neg (by omega)]
    | succ d ih =>
      intro k i h0 h1 hd hk
      obtain ⟨k, rfl⟩ : ∃ m, k = m + 1 := ⟨k - 1, by omega⟩
      simp only [laws_uSame.l0]
      rw [if_pos (by omega), if_pos (by omega), if_pos (by omega), if_pos (by omega), if_pos trivial, wrap64_id (by omega) (by omega)]
      exact ih k (i + 1) (by omega) (by omega) (by omega) (by omega)
  unfold laws_uSame.f
  rw [if_pos rfl]
  exact h l.length 10000 0 (by omega) (by omega) (by omega) (by omega)
theorem uRises_true (l : List Int) (hl : l.length ≤ 9000) (hr : ∀ i : Int, 1 ≤ i → i < l.length → rd l (i - 1) < rd l i) : laws_uRises.f 10000 l = some true := by
  have h : ∀ (d k : Nat) (i : Int), 1 ≤ i → i ≤ l.length + 1 → (l.length : Int) + 1 - i = d → d < k → laws_uRises.l0 k l i = some true := by
    intro d
    induction d with
    | zero =>
      intro k i h0 h1 hd hk
      obtain ⟨k, rfl⟩ : ∃ m, k = m + 1 := ⟨k - 1, by omega⟩
      simp only [laws_uRises.l0]
      rw [if_neg (by omega)]
    | succ d ih =>
      intro k i h0 h1 hd hk
      obtain ⟨k, rfl⟩ : ∃ m, k = m + 1 := ⟨k - 1, by omega⟩
      simp only [laws_uRises.l0]
      by_cases hi : i < l.length
      · have := hr i h0 hi
        rw [if_pos hi, wrap64_id (x := i - 1) (by omega) (by omega), if_pos (by omega), if_pos (by omega), if_pos (by omega), if_neg (by omega), wrap64_id (by omega) (by omega)]
        exact ih k (i + 1) (by omega) (by omega) (by omega) (by omega)
      · rw [if_neg hi]
  unfold laws_uRises.f
  exact h l.length 10000 1 (by omega) (by omega) (by omega) (by omega)
theorem rdI_get (l : List Int) (i : Int) (h0 : 0 ≤ i) (h1 : i < l.length) : rd l i = l[i.toNat]'(by omega) := by
  unfold rd
  rw [List.getD_eq_getElem?_getD, List.getElem?_eq_getElem (by omega), Option.getD_some]
theorem uHas_eq (l : List Int) (hl : l.length ≤ 9000) (x : Int) : laws_uHas.f 10000 l x = some (decide (x ∈ l)) := by
  have h : ∀ (m pre : List Int) (k : Nat), pre ++ m = l → m.length < k → laws_uHas.l0 k x l (l.length : Int) pre.length = some (decide (x ∈ m)) := by
    intro m
    induction m with
    | nil =>
      intro pre k e hk
      obtain ⟨k, rfl⟩ : ∃ t, k = t + 1 := ⟨k - 1, by omega⟩
      rw [List.append_nil] at e
      subst e
      simp only [laws_uHas.l0]
      rw [if_neg (by omega)]
      simp
    | cons y m ih =>
      intro pre k e hk
      obtain ⟨k, rfl⟩ : ∃ t, k = t + 1 := ⟨k - 1, by omega⟩
      have hlen : (l.length : Int) = pre.length + m.length + 1 := by rw [← e]; simp; omega
      simp only [List.length_cons] at hk
      simp only [laws_uHas.l0]
      have hx : rd l (pre.length : Int) = y := by
        subst e
        rw [rdI_get _ _ (by omega) (by omega)]
        simp
      rw [if_pos (by omega), if_pos (by omega), if_pos (by omega), hx]
      by_cases hy : y = x
      · rw [if_pos hy]
        simp [hy]
      · have IH := ih (pre ++ [y]) k (by simpa using e) (by omega)
        have hpl : (((pre ++ [y]).length : Nat) : Int) = (pre.length : Int) + 1 := by simp
        rw [hpl] at IH
        rw [if_neg hy, wrap64_id (by omega) (by omega), IH]
        have hne : ¬ x = y := fun z => hy z.symm
        simp [hne]
  unfold laws_uHas.f
  exact h l [] 10000 rfl (by omega)
theorem chordsOf_val (n s : Int) : impl_ChordsOf.f 10000 n s = some (if isStar n s then starL n s else [], decide (isStar n s)) ∧ spec_ChordsOf.f 10000 n s = some (if isStar n s then starL n s else [], decide (isStar n s)) := by
  unfold spec_ChordsOf.f impl_ChordsOf.f
  simp only [srGood_eq, implIsStar_eq, Option.bind_some]
  by_cases h : isStar n s
  · simp only [if_pos (decide_eq_true h), if_pos h, srChords_eq n s h 10000 (by omega), starChords_eq n s h 10000 (by omega), Option.bind_some, decide_eq_true h]
    simp
  · simp [decide_eq_false h, if_neg h]
theorem count_val (n s : Int) : impl_CountCrossings.f 10000 n s = some (if isStar n s then (pairsX (starL n s) : Int) else 0, decide (isStar n s)) ∧ spec_CountCrossings.f 10000 n s = some (if isStar n s then (pairsX (starL n s) : Int) else 0, decide (isStar n s)) := by
  unfold spec_CountCrossings.f impl_CountCrossings.f
  simp only [srGood_eq, implIsStar_eq, Option.bind_some]
  by_cases h : isStar n s
  · have h1 := starL_len n s
    have hs := h
    unfold isStar at hs
    have h2 : (starL n s).length * ((starL n s).length + 3) ≤ 60 * 63 := Nat.mul_le_mul (by omega) (by omega)
    simp only [if_pos (decide_eq_true h), srChords_eq n s h 10000 (by omega), starChords_eq n s h 10000 (by omega), Option.bind_some, srCount_eq (starL n s) (by omega) 10000 (by omega), crossings_eq n (starL n s) (starL_proper n s h) (by omega) 10000 (by omega), if_pos h, decide_eq_true h]
    simp
  · simp [decide_eq_false h, if_neg h]
theorem crossingsOn_loop (c : S34) (m : List S34) : ∀ (k : Nat) (pre : List S34) (cnt : Int), pre.length + m.length ≤ 1000000 → 0 ≤ cnt → cnt + m.length ≤ 4611686018427387904 → m.length < k →
    spec_CrossingsOn.l0 k cnt (pre ++ m) ((pre ++ m).length : Int) pre.length c.f0 c.f1 = some (cnt + countX c m, true) := by
  induction m with
  | nil =>
    intro k pre cnt hl h0 h1 hk
    obtain ⟨k, rfl⟩ : ∃ t, k = t + 1 := ⟨k - 1, by omega⟩
    simp only [spec_CrossingsOn.l0, List.append_nil]
    rw [if_neg (by omega)]
    simp [countX]
  | cons x m ih =>
    intro k pre cnt hl h0 h1 hk
    obtain ⟨k, rfl⟩ : ∃ t, k = t + 1 := ⟨k - 1, by omega⟩
    simp only [List.length_cons] at hl h1 hk
    have hlen : ((pre ++ x :: m).length : Int) = pre.length + m.length + 1 := by simp; omega
    simp only [spec_CrossingsOn.l0]
    rw [if_pos (by omega), if_pos (by omega), if_pos (by omega), rdC_append, srCross_cross]
    simp only [Option.bind_some]
    have IH := fun cnt h0 h1 => ih k (pre ++ [x]) cnt (by simp; omega) h0 h1 (by omega)
    simp only [List.append_assoc, List.cons_append, List.nil_append] at IH
    have hpl : (((pre ++ [x]).length : Nat) : Int) = (pre.length : Int) + 1 := by simp
    rw [hpl] at IH
    rw [wrap64_id (x := cnt + 1) (by omega) (by omega), wrap64_id (by omega) (by omega)]
    unfold countX at IH ⊢
    by_cases e : crossB c x = true
    · rw [if_pos e, IH (cnt + 1) (by omega) (by omega), List.countP_cons_of_pos e]
      congr 2; omega
    · rw [if_neg e, IH cnt (by omega) (by omega), List.countP_cons_of_neg e]
theorem crossingsOn_val (n s a b : Int) : ∃ v y, impl_CrossingsOn.f 10000 n s a b = some (v, y) ∧ spec_CrossingsOn.f 10000 n s a b = some (v, y) ∧ (isStar n s → isCh n a b → v = countX ⟨a, b⟩ (starL n s) ∧ y = true) := by
  unfold spec_CrossingsOn.f impl_CrossingsOn.f
  simp only [srGood_eq, implIsStar_eq, Option.bind_some]
  by_cases h : isStar n s
  · have hs := h
    unfold isStar at hs
    simp only [if_pos (decide_eq_true h), srIs_eq n a b (by omega), implIsChord_eq, Option.bind_some, spec_CrossingsOn.j0, impl_CrossingsOn.j0]
    by_cases hc : isCh n a b
    · have hp : Proper n ⟨a, b⟩ := hc
      have h1 := starL_len n s
      have e1 := crossingsOn_loop ⟨a, b⟩ (starL n s) 9999 [] 0 (by simp; omega) (by omega) (by omega) (by omega)
      have e2 := crossed_eq n ⟨a, b⟩ hp (starL n s) (starL_proper n s h) (by omega) 9999 (by omega)
      simp only [List.nil_append, List.length_nil, Int.natCast_zero] at e1 e2
      exact ⟨(countX ⟨a, b⟩ (starL n s) : Int), true, by simp [decide_eq_true hc, starChords_eq n s h 9999 (by omega), e2], by simp [decide_eq_true hc, srChords_eq n s h 9999 (by omega), e1], fun _ _ => ⟨rfl, rfl⟩⟩
    · exact ⟨0, false, by simp [decide_eq_false hc], by simp [decide_eq_false hc], fun _ x => absurd x hc⟩
  · exact ⟨0, false, by simp [decide_eq_false h, impl_CrossingsOn.j0], by simp [decide_eq_false h, spec_CrossingsOn.j0], fun x => absurd x h⟩
def eqL : List S34 → List S34 → Bool
  | [], [] => true
  | x :: l, y :: m => decide (x.f0 = y.f0) && (decide (x.f1 = y.f1) && eqL l m)
  | _, _ => false
theorem eqL_eq : ∀ (l m : List S34), eqL l m = true → l = m
  | [], [], _ => rfl
  | [], y :: m, h => by simp [eqL] at h
  | x :: l, [], h => by simp [eqL] at h
  | x :: l, y :: m, h => by
    simp only [eqL, Bool.and_eq_true, decide_eq_true_eq] at h
    rw [eqL_eq l m h.2.2, chord_ext h.1 h.2.1]
def smL (M : List S34) : List S34 → Nat → Int
  | _, 0 => 0
  | [], i + 1 => smL M [] i
  | x :: l, i + 1 => (countX x M : Int) + smL M l i
theorem smL_step (M : List S34) : ∀ (l : List S34) (i : Nat) (h : i < l.length), smL M l (i + 1) = smL M l i + (countX (l[i]) M : Int)
  | [], i, h => by simp at h
  | x :: l, 0, h => by simp [smL]
  | x :: l, i + 1, h => by
    have ih := smL_step M l i (by simpa using h)
    simp only [smL] at ih ⊢
    rw [ih]
    simp only [List.getElem_cons_succ]
    omega
theorem smL_bound (M : List S34) : ∀ (l : List S34) (i : Nat), 0 ≤ smL M l i ∧ smL M l i ≤ i * M.length
  | _, 0 => by simp [smL]
  | [], i + 1 => by
    have := smL_bound M [] i
    simp only [smL]
    refine ⟨this.1, ?_⟩
    have h2 : ((i + 1 : Nat) : Int) * M.length = i * M.length + M.length := by rw [Int.natCast_add, Int.add_mul]; simp
    omega
  | x :: l, i + 1 => by
    have := smL_bound M l i
    have h1 := countX_le x M
    simp only [smL]
    have h2 : ((i + 1 : Nat) : Int) * M.length = i * M.length + M.length := by rw [Int.natCast_add, Int.add_mul]; simp
    omega
def chkStar (n s : Int) : Bool :=
  let L := putAll [] (chFrom n s 0 n.toNat)
  let sm := mn s (n - s)
  eqL (putAll [] (chFrom n (n - s) 0 n.toNat)) L && (decide (smL L L L.length = 2 * (pairsX L : Int)) && (if 2 * sm < n then decide ((L.length : Int) = n ∧ (pairsX L : Int) = n * (sm - 1)) else decide ((L.length : Int) = sm ∧ (pairsX L : Int) = wrap64 ((wrap64 (sm * (sm - 1))).tdiv 2))))
def starNS : List (Int × Int) := ((List.range 12).flatMap fun (i : Nat) => (List.range (i + 2)).map fun (j : Nat) => (((i : Nat) : Int) + 3, ((j : Nat) : Int) + 1)) ++ [(60, 1), (60, 2), (60, 30), (60, 59)]
theorem starNS_chk : (starNS.all fun q => chkStar q.1 q.2) = true := by decide +kernel
theorem starNS_special : (starPs.all fun p => starSs.all fun s => !decide (isStar p s) || starNS.contains (p, s)) = true := by decide +kernel
theorem starNS_mem {n s : Int} (hd : StarDom n s) (h : isStar n s) : (n, s) ∈ starNS := by
  rcases hd with ⟨h1, h2⟩ | h1
  · have := starNS_special
    rw [List.all_eq_true] at this
    have := this n h1
    rw [List.all_eq_true] at this
    have := this s h2
    rw [decide_eq_true h] at this
    simpa using this
  · unfold starNS
    rw [List.mem_append, List.mem_flatMap]
    refine .inl ⟨(n - 3).toNat, List.mem_range.2 (by omega), List.mem_map.2 ⟨(s - 1).toNat, List.mem_range.2 (by omega), ?_⟩⟩
    rw [Prod.mk.injEq]
    omega
theorem rdT_get (l : List S34) (i : Nat) (h : i < l.length) : rd_T34 l (i : Int) = l[i] := by
  rw [rdC_get l i (by omega) (by omega)]
  simp
theorem star_facts (n s : Int) (hd : StarDom n s) : ∃ L b cnt, StarVal n s L b cnt ∧ (b = true → ∃ sm cx small, StarOk n s L cnt sm cx small) := by
  obtain ⟨c1, c2⟩ := chordsOf_val n s
  obtain ⟨d1, d2⟩ := count_val n s
  refine ⟨_, _, _, ⟨?_, c1, c2, d1, d2, uChords_self _ ?_⟩, fun hb => ?_⟩
  · split
    · rename_i h
      have := starL_len n s
      unfold isStar at h
      omega
    · simp
  · split
    · rename_i h
      have := starL_len n s
      unfold isStar at h
      omega
    · simp
  · have h := of_decide_eq_true hb
    have h' := h
    unfold isStar at h'
    rw [if_pos h, if_pos h]
    have hck := (List.all_eq_true.1 starNS_chk) _ (starNS_mem hd h)
    unfold chkStar at hck
    simp only [putAll_ordL, Bool.and_eq_true, decide_eq_true_eq] at hck
    obtain ⟨k1, k2, k3⟩ := hck
    have k1 := eqL_eq _ _ k1
    change starL n (n - s) = starL n s at k1
    change smL (starL n s) (starL n s) (starL n s).length = 2 * (pairsX (starL n s) : Int) at k2
    have hs2 : isStar n (n - s) := by unfold isStar; omega
    have hlen := starL_len n s
    have hpr := starL_proper n s h
    have hst := starL_strict n s
    have hpl := pairsX_le (starL n s)
    have hpm : (starL n s).length * (starL n s).length ≤ 60 * 60 := Nat.mul_le_mul (by omega) (by omega)
    refine ⟨smL (starL n s) (starL n s), fun i => (countX (rd_T34 (starL n s) (i : Int)) (starL n s) : Int), mn s (n - s), ⟨by omega, ?_, ?_, by simp [smL], k2, by omega, ?_, ?_, ?_, ?_, ?_⟩⟩
    · intro i hi
      have hx := rdT_get (starL n s) i hi
      have hm : (starL n s)[i] ∈ starL n s := List.getElem_mem hi
      obtain ⟨v, y, e1, _, e3⟩ := crossingsOn_val n s (starL n s)[i].f0 (starL n s)[i].f1
      obtain ⟨rfl, rfl⟩ := e3 h (hpr _ hm)
      have h1 := countX_le (starL n s)[i] (starL n s)
      have h2 := smL_bound (starL n s) (starL n s) i
      have h3 : (i : Int) * ((starL n s).length : Int) ≤ 60 * 60 := Int.mul_le_mul (by omega) (by omega) (by omega) (by omega)
      rw [hx]
      exact ⟨e1, smL_step _ _ i hi, by omega, by omega, by omega, by omega⟩
    · intro i hi
      have hm : (starL n s)[i] ∈ starL n s := List.getElem_mem hi
      have hp := hpr _ hm
      unfold Proper at hp
      rw [rdT_get _ i hi]
      refine ⟨by omega, fun h0 => ?_⟩
      rw [rdT_get _ (i - 1) (by omega)]
      have := List.pairwise_iff_getElem.1 hst (i - 1) i (by omega) hi (by omega)
      exact (cLt_iff _ _).1 this
    · unfold impl_SmallStep.f
      rw [implIsStar_eq, Option.bind_some, if_pos (decide_eq_true h), wrap64_id (by omega) (by omega)]
    · unfold mn; split <;> omega
    · have := (chordsOf_val n (n - s)).1
      rw [if_pos hs2, decide_eq_true hs2, k1] at this
      exact this
    · intro hf
      rw [if_pos hf, decide_eq_true_eq] at k3
      exact k3
    · intro hf
      rw [if_neg hf, decide_eq_true_eq] at k3
      exact k3
theorem two_facts (p a b c d : Int) : ∃ x y, TwoOk p a b c d x y := by
  have hi : impl_AreCrossing.f p a b c d = if 3 ≤ p ∧ p ≤ 60 then (if isCh p a b then (if isCh p c d then some (crossB ⟨a, b⟩ ⟨c, d⟩, true) else some (false, false)) else some (false, false)) else some (false, false) := by
    unfold impl_AreCrossing.f
    simp only [isCircle_eq, implIsChord_eq, Option.bind_some]
    by_cases h : 3 ≤ p ∧ p ≤ 60
    · by_cases h1 : isCh p a b
      · by_cases h2 : isCh p c d
        · simp [decide_eq_true h, h, decide_eq_true h1, h1, decide_eq_true h2, h2, crossing_eq p ⟨a, b⟩ ⟨c, d⟩ h1 h2]
        · simp [decide_eq_true h, h, decide_eq_true h1, h1, decide_eq_false h2, h2]
      · simp [decide_eq_true h, h, decide_eq_false h1, h1]
    · simp [decide_eq_false h, h]
  have hs : spec_AreCrossing.f p a b c d = if 3 ≤ p ∧ p ≤ 60 then (if isCh p a b then (if isCh p c d then some (crossB ⟨a, b⟩ ⟨c, d⟩, true) else some (false, false)) else some (false, false)) else some (false, false) := by
    unfold spec_AreCrossing.f
    simp only [srPoints_eq, Option.bind_some]
    by_cases h : 3 ≤ p ∧ p ≤ 60
    · simp only [srIs_eq p a b h, srIs_eq p c d h, Option.bind_some]
      by_cases h1 : isCh p a b
      · by_cases h2 : isCh p c d
        · simp [decide_eq_true h, h, decide_eq_true h1, h1, decide_eq_true h2, h2]
          rfl
        · simp [decide_eq_true h, h, decide_eq_true h1, h1, decide_eq_false h2, h2]
      · simp [decide_eq_true h, h, decide_eq_false h1, h1]
    · simp [decide_eq_false h, h]
  by_cases h : 3 ≤ p ∧ p ≤ 60
  · by_cases h1 : isCh p a b
    · by_cases h2 : isCh p c d
      · rw [if_pos h, if_pos h1, if_pos h2] at hi hs
        refine ⟨_, _, hi, hs, fun _ => ?_, fun _ hx => ?_⟩
        · unfold impl_AreCrossing.f
          simp [isCircle_eq, implIsChord_eq, decide_eq_true h, h, decide_eq_true h1, h1, decide_eq_true h2, h2, crossing_eq p ⟨c, d⟩ ⟨a, b⟩ h2 h1, crossB_symm p ⟨c, d⟩ ⟨a, b⟩ h2 h1]
        · rw [crossB_iff p ⟨a, b⟩ ⟨c, d⟩ h1 h2] at hx
          simp only at hx
          unfold isCh at h1 h2
          omega
      · rw [if_pos h, if_pos h1, if_neg h2] at hi hs
        exact ⟨_, _, hi, hs, (fun x => by cases x), (fun x => by cases x)⟩
    · rw [if_pos h, if_neg h1] at hi hs
      exact ⟨_, _, hi, hs, (fun x => by cases x), (fun x => by cases x)⟩
  · rw [if_neg h] at hi hs
    exact ⟨_, _, hi, hs, (fun x => by cases x), (fun x => by cases x)⟩
theorem turnedStar_loop (n t s : Int) (hn : 3 ≤ n ∧ n ≤ 60) (ht : 0 ≤ t ∧ t < n) (m : List S34) : ∀ (k : Nat) (pre acc : List S34), (∀ x ∈ m, Proper n x) → pre.length + m.length ≤ 300 → acc.length ≤ pre.length → m.length + 302 < k →
    spec_TurnedStar.l0 k t acc (pre ++ m) ((pre ++ m).length : Int) pre.length n s = some (Q.putAll acc (m.map (turnC n t)), true) := by
  induction m with
  | nil =>
    intro k pre acc _ hl ha hk
    obtain ⟨k, rfl⟩ : ∃ t, k = t + 1 := ⟨k - 1, by omega⟩
    simp only [spec_TurnedStar.l0, List.append_nil, List.map_nil, Q.putAll]
    rw [if_neg (by omega)]
  | cons x m ih =>
    intro k pre acc hp hl ha hk
    obtain ⟨k, rfl⟩ : ∃ t, k = t + 1 := ⟨k - 1, by omega⟩
    simp only [List.length_cons] at hl hk
    have hlen : ((pre ++ x :: m).length : Int) = pre.length + m.length + 1 := by simp; omega
    simp only [spec_TurnedStar.l0, List.map_cons, Q.putAll]
    have hx := hp x (by simp)
    have hx' := hx
    unfold Proper at hx'
    rw [if_pos (by omega), if_pos (by omega), if_pos (by omega), if_neg (by omega), rdC_append, turn_tmod n t _ hn ht (by omega), turn_tmod n t _ hn ht (by omega), srChord_eq]
    simp only [Option.bind_some]
    rw [srPut_eq _ _ _ (by omega) (by omega)]
    simp only [Option.bind_some]
    rw [wrap64_id (by omega) (by omega)]
    have h1 := insL_len (mkC ((x.f0 + t) % n) ((x.f1 + t) % n)) acc
    have IH := ih k (pre ++ [x]) (insL (turnC n t x) acc) (fun y hy => hp y (by simp [hy])) (by simp; omega) (by simp; unfold turnC; omega) (by omega)
    simp only [List.append_assoc, List.cons_append, List.nil_append] at IH
    have hpl : (((pre ++ [x]).length : Nat) : Int) = (pre.length : Int) + 1 := by simp
    rw [hpl] at IH
    exact IH
theorem chFrom_mem (n s : Int) (c : S34) : ∀ (d : Nat) (x : Int), c ∈ chFrom n s x d ↔ ∃ i : Int, x ≤ i ∧ i < x + d ∧ c = mkC i ((i + s) % n)
  | 0, x => by simp only [chFrom, List.not_mem_nil, false_iff]; rintro ⟨i, h1, h2, _⟩; omega
  | d + 1, x => by
    simp only [chFrom, List.mem_cons, chFrom_mem n s c d (x + 1)]
    constructor
    · rintro (h | ⟨i, h1, h2, h3⟩)
      · exact ⟨x, by omega, by omega, h⟩
      · exact ⟨i, by omega, by omega, h3⟩
    · rintro ⟨i, h1, h2, h3⟩
      by_cases e : i = x
      · subst e; exact .inl h3
      · exact .inr ⟨i, by omega, by omega, h3⟩
theorem mkC_comm (a b : Int) : mkC a b = mkC b a := by
  unfold mkC mn mx
  by_cases h : a < b
  · rw [if_neg (by omega), if_pos h, if_pos h, if_neg (by omega)]
  · by_cases h2 : b < a
    · rw [if_pos h2, if_neg h, if_neg h, if_pos h2]
    · rw [if_neg h2, if_neg h, if_neg h, if_neg h2]
      have : a = b := by omega
      subst this
      rfl
theorem turn_mkC (n t a b : Int) : turnC n t (mkC a b) = mkC ((a + t) % n) ((b + t) % n) := by
  unfold turnC
  by_cases h : a < b
  · have h0 : (mkC a b).f0 = a := by unfold mkC mn; simp only; rw [if_neg (by omega)]
    have h1 : (mkC a b).f1 = b := by unfold mkC mx; simp only; rw [if_pos h]
    rw [h0, h1]
  · have h1 : (mkC a b).f1 = a := by unfold mkC mx; simp only; rw [if_neg h]
    have h0 : (mkC a b).f0 = b := by unfold mkC mn; simp only; split <;> omega
    rw [h0, h1, mkC_comm]
theorem starL_mem (n s : Int) (hn : 0 ≤ n) (c : S34) : c ∈ starL n s ↔ ∃ i : Int, 0 ≤ i ∧ i < n ∧ c = mkC i ((i + s) % n) := by
  unfold starL
  rw [(ordL_strict _).2, chFrom_mem]
  constructor
  · rintro ⟨i, h1, h2, h3⟩; exact ⟨i, h1, by omega, h3⟩
  · rintro ⟨i, h1, h2, h3⟩; exact ⟨i, h1, by omega, h3⟩
theorem starL_turn (n s t : Int) (hs : isStar n s) : ordL ((starL n s).map (turnC n t)) = starL n s := by
  unfold isStar at hs
  refine strict_unique _ _ (ordL_strict _).1 (starL_strict n s) fun x => ?_
  rw [(ordL_strict _).2, List.mem_map]
  constructor
  · rintro ⟨c, hc, rfl⟩
    obtain ⟨i, h1, h2, rfl⟩ := (starL_mem n s (by omega) c).1 hc
    refine (starL_mem n s (by omega) _).2 ⟨(i + t) % n, Int.emod_nonneg _ (by omega), Int.emod_lt_of_pos _ (by omega), ?_⟩
    rw [turn_mkC, Int.emod_add_emod, Int.emod_add_emod, show i + s + t = i + t + s by omega]
  · intro hx
    obtain ⟨i, h1, h2, rfl⟩ := (starL_mem n s (by omega) x).1 hx
    refine ⟨mkC ((i - t) % n) (((i - t) % n + s) % n), (starL_mem n s (by omega) _).2 ⟨(i - t) % n, Int.emod_nonneg _ (by omega), Int.emod_lt_of_pos _ (by omega), rfl⟩, ?_⟩
    rw [turn_mkC, Int.emod_add_emod, Int.emod_add_emod, show (i - t) % n + s + t = (i - t) % n + (s + t) by omega, Int.emod_add_emod, show i - t + t = i by omega, show i - t + (s + t) = i + s by omega, Int.emod_eq_of_lt h1 h2]
theorem turn_vals (n s t : Int) (h : isStar n s ∧ 0 ≤ t ∧ t < n) (k : Nat) (hk : 1000 ≤ k) : impl_TurnedStar.f k n s t = some (starL n s, true) ∧ spec_TurnedStar.f k n s t = some (starL n s, true) := by
  have hs := h.1
  unfold isStar at hs
  have h1 := starL_len n s
  have e1 := turnedStar_loop n t s (by omega) h.2 (starL n s) k [] [] (starL_proper n s h.1) (by simp; omega) (by simp) (by omega)
  have e2 := turned_eq n t (by omega) h.2 (starL n s) (starL_proper n s h.1) (by omega) k (by omega)
  rw [putAll_ordL, starL_turn n s t h.1] at e1
  rw [starL_turn n s t h.1] at e2
  simp only [List.nil_append, List.length_nil, Int.natCast_zero] at e1
  constructor
  · unfold impl_TurnedStar.f
    simp only [isPoint_eq1, Option.bind_some, if_pos (decide_eq_true h), starChords_eq n s h.1 k (by omega), e2]
  · unfold spec_TurnedStar.f
    simp only [srAsked_eq, Option.bind_some, if_pos (decide_eq_true h), srChords_eq n s h.1 k (by omega), e1]
theorem turn_vals0 (n s t : Int) (h : ¬ (isStar n s ∧ 0 ≤ t ∧ t < n)) (k : Nat) : impl_TurnedStar.f k n s t = some ([], false) ∧ spec_TurnedStar.f k n s t = some ([], false) := by
  constructor
  · unfold impl_TurnedStar.f
    simp [isPoint_eq1, decide_eq_false h]
  · unfold spec_TurnedStar.f
    simp [srAsked_eq, decide_eq_false h]
theorem turn_facts (n s t : Int) : ∃ T y, TurnOk n s t T y := by
  by_cases h : isStar n s ∧ 0 ≤ t ∧ t < n
  · have hs := h.1
    unfold isStar at hs
    have h1 := starL_len n s
    obtain ⟨v1, v2⟩ := turn_vals n s t h 10000 (by omega)
    refine ⟨starL n s, true, by omega, v1, v2, uChords_self _ (by omega), fun _ => ?_⟩
    have := (chordsOf_val n s).1
    rw [if_pos h.1, decide_eq_true h.1] at this
    exact this
  · obtain ⟨v1, v2⟩ := turn_vals0 n s t h 10000
    exact ⟨[], false, by simp, v1, v2, uChords_self _ (by simp), (fun x => by cases x)⟩
theorem starsOf_loop (n : Int) (hn : 3 ≤ n ∧ n ≤ 60) (d : Nat) : ∀ (k : Nat) (acc : List Int) (x : Int), 1 ≤ x → x ≤ n / 2 + 1 → acc.length ≤ x → n / 2 + 1 - x = d → d < k →
    spec_StarsOf.l0 k n acc x = some (acc ++ nwList (fun _ => true) x d, true) := by
  induction d with
  | zero =>
    intro k acc x h1 h2 h3 hd hk
    obtain ⟨k, rfl⟩ : ∃ m, k = m + 1 := ⟨k - 1, by omega⟩
    simp only [spec_StarsOf.l0, nwList]
    rw [wrap64_id (by omega) (by omega), if_neg (by omega)]
    simp
  | succ d ih =>
    intro k acc x h1 h2 h3 hd hk
    obtain ⟨k, rfl⟩ : ∃ m, k = m + 1 := ⟨k - 1, by omega⟩
    simp only [spec_StarsOf.l0, nwList]
    rw [wrap64_id (x := 2 * x) (by omega) (by omega), if_pos (by omega), if_pos (by omega), wrap64_id (by omega) (by omega)]
    rw [ih k (acc ++ [x]) (x + 1) (by omega) (by omega) (by simp; omega) (by omega) (by omega)]
    simp
theorem oneString_loop (n : Int) (hn : 3 ≤ n ∧ n ≤ 60) (d : Nat) : ∀ (k : Nat) (acc : List Int) (x : Int), 1 ≤ x → x ≤ n / 2 + 1 → acc.length ≤ x → n / 2 + 1 - x = d → d + 62 < k →
    spec_OneString.l0 k n acc x = some (acc ++ nwList (impl_OneString.q n) x d, true) := by
  induction d with
  | zero =>
    intro k acc x h1 h2 h3 hd hk
    obtain ⟨k, rfl⟩ : ∃ m, k = m + 1 := ⟨k - 1, by omega⟩
    simp only [spec_OneString.l0, nwList]
    rw [wrap64_id (by omega) (by omega), if_neg (by omega)]
    simp
  | succ d ih =>
    intro k acc x h1 h2 h3 hd hk
    obtain ⟨k, rfl⟩ : ∃ m, k = m + 1 := ⟨k - 1, by omega⟩
    simp only [spec_OneString.l0, nwList]
    rw [wrap64_id (x := 2 * x) (by omega) (by omega), if_pos (by omega), wrap64_id (by omega) (by omega), common_eq k n x (by omega) (by omega) (by omega)]
    simp only [Option.bind_some]
    unfold impl_OneString.q
    by_cases e : ((Int.gcd n x : Nat) : Int) = 1
    · rw [if_pos e, if_pos (by omega), if_pos (beq_iff_eq.2 e)]
      rw [ih k (acc ++ [x]) (x + 1) (by omega) (by omega) (by simp; omega) (by omega) (by omega)]
      unfold impl_OneString.q
      simp
    · rw [if_neg e, if_neg (by simpa using e)]
      rw [ih k acc (x + 1) (by omega) (by omega) (by omega) (by omega) (by omega)]
      unfold impl_OneString.q
      rfl
theorem lists_val (n : Int) (k : Nat) (hk : 1000 ≤ k) : spec_StarsOf.f k n = some (impl_StarsOf.v n) ∧ spec_OneString.f k n = some (impl_OneString.v n) := by
  unfold spec_StarsOf.f spec_OneString.f impl_StarsOf.v impl_OneString.v
  simp only [srPoints_eq, Option.bind_some]
  by_cases h : 3 ≤ n ∧ n ≤ 60
  · simp only [if_pos (decide_eq_true h), if_pos h]
    have e : (n / 2 - 1 + 1).toNat = (n / 2 + 1 - 1).toNat := by omega
    rw [e]
    exact ⟨starsOf_loop n h (n / 2 + 1 - 1).toNat k [] 1 (by omega) (by omega) (by simp) (by omega) (by omega), oneString_loop n h (n / 2 + 1 - 1).toNat k [] 1 (by omega) (by omega) (by simp) (by omega) (by omega)⟩
  · simp [decide_eq_false h, if_neg h]
theorem countStrings_val (n s : Int) (h : isStar n s) (k : Nat) (hk : 1000 ≤ k) : impl_CountStrings.f k n s = some (((Int.gcd n s : Nat) : Int), true) := by
  unfold impl_CountStrings.f
  simp only [Option.bind_some, implIsStar_eq]
  rw [if_pos (decide_eq_true h)]
  unfold isStar at h
  rw [strings_eq k n s (by omega) (by omega) (by omega)]
  rfl
def risB : List Int → Bool
  | [] => true
  | [_] => true
  | x :: y :: l => decide (x < y) && risB (y :: l)
theorem risB_rd : ∀ (l : List Int), risB l = true → ∀ i : Nat, i + 1 < l.length → rd l (i : Int) < rd l ((i : Int) + 1)
  | [], _, i, hi => by simp at hi
  | [_], _, i, hi => by simp at hi
  | x :: y :: l, h, i, hi => by
    simp only [risB, Bool.and_eq_true, decide_eq_true_eq] at h
    have g : ∀ (j : Nat) (m : List Int) (z : Int), rd (z :: m) ((j : Int) + 1) = rd m (j : Int) := by
      intro j m z
      unfold rd
      rw [show ((j : Int) + 1).toNat = j + 1 by omega, Int.toNat_natCast]
      rfl
    cases i with
    | zero =>
      rw [g 0]
      exact h.1
    | succ i =>
      have := risB_rd (y :: l) h.2 i (by simpa using hi)
      rw [g (i + 1) (y :: l) x, show ((i + 1 : Nat) : Int) = (i : Int) + 1 by omega, g i (y :: l) x]
      exact this
def chkList (n : Int) : Bool :=
  let A := (impl_StarsOf.v n).1
  let B := (impl_OneString.v n).1
  decide (A.length ≤ 60) && (decide (B.length ≤ 60) && (decide (-1 ≤ n ∧ n ≤ 61) && (!(impl_StarsOf.v n).2 || (risB A && (risB B && (decide ((A.length : Int) = n / 2 ∧ 3 ≤ n ∧ n ≤ 60) && A.all fun x => decide (1 ≤ x ∧ x < n) && (decide (x ∈ B) == (((Int.gcd n x : Nat) : Int) == 1))))))))
theorem lists_chk : (starNs.all chkList) = true := by decide +kernel
theorem v_same (n : Int) : (impl_OneString.v n).2 = (impl_StarsOf.v n).2 := by unfold impl_StarsOf.v impl_OneString.v; split <;> rfl
theorem list_facts (n : Int) (hn : n ∈ starNs) : ∃ A B y str, ListOk n A B y str := by
  have hck := (List.all_eq_true.1 lists_chk) n hn
  unfold chkList at hck
  simp only [Bool.and_eq_true, decide_eq_true_eq] at hck
  obtain ⟨k1, k2, k3, k4⟩ := hck
  obtain ⟨v1, v2⟩ := lists_val n 10000 (by omega)
  have hy := v_same n
  have hA : impl_StarsOf.f n = some (impl_StarsOf.v n) := rfl
  have hB : impl_OneString.f n = some (impl_OneString.v n) := rfl
  generalize impl_StarsOf.v n = vA at *
  generalize impl_OneString.v n = vB at *
  obtain ⟨A, y⟩ := vA
  obtain ⟨B, y2⟩ := vB
  simp only at *
  subst hy
  have hk : y2 = true → risB A = true ∧ risB B = true ∧ ((A.length : Int) = n / 2 ∧ 3 ≤ n ∧ n ≤ 60) ∧ ∀ x ∈ A, (1 ≤ x ∧ x < n) ∧ (decide (x ∈ B) = (((Int.gcd n x : Nat) : Int) == 1)) := by
    intro e
    subst e
    simp only [Bool.not_true, Bool.false_or, Bool.and_eq_true, decide_eq_true_eq, List.all_eq_true, beq_iff_eq] at k4
    exact k4
  have ris : ∀ l : List Int, l.length ≤ 60 → risB l = true → laws_uRises.f 10000 l = some true := by
    intro l hl hr
    refine uRises_true l (by omega) fun i h0 h1 => ?_
    have := risB_rd l hr (i - 1).toNat (by omega)
    rw [show (((i - 1).toNat : Nat) : Int) = i - 1 by omega, show i - 1 + 1 = i by omega] at this
    exact this
  refine ⟨A, B, y2, fun i => ((Int.gcd n (rd A (i : Int)) : Nat) : Int), ⟨⟨k1, k2⟩, hA, v1, hB, v2, uSame_self A (by omega), uSame_self B (by omega), k3, fun e => ris A k1 (hk e).1, fun e => ris B k2 (hk e).2.1, fun e => ⟨(hk e).2.2.1.1, by have := (hk e).2.2.1.2; omega⟩, fun e i hi => ?_⟩⟩
  obtain ⟨_, _, h3, h4⟩ := hk e
  have hx : rd A (i : Int) ∈ A := rd_mem' A i (by omega) (by omega)
  obtain ⟨h5, h6⟩ := h4 _ hx
  refine ⟨countStrings_val n (rd A (i : Int)) (by unfold isStar; omega) 10000 (by omega), ?_⟩
  rw [uHas_eq B (by omega), h6]
end Go.Proofs.Ytnjocighalandaa.X
end
section
namespace Go.Proofs.Ytnjocighalandaa.X
open Go.RowKit Go.Proofs.YtnjocighalandaaW.PrintWords Go.Proofs.YtnjocighalandaaW.PrintLast Go.Proofs.YtnjocighalandaaW.PrintMore
attribute [local go_sem] max2_int min2_int max_two min_two max_three min_three max_four min_four
set_option linter.unusedVariables false
set_option linter.unusedSimpArgs false
set_option maxHeartbeats 8000000 in
set_option maxRecDepth 100000 in
theorem law_walk (A0 : Option Addr) (c0 : Nat) (l0 : List Int) (A1 : Option Addr) (c1 : Nat) (l1 : List Int) (w : World) (hr0 : Kd.C (Kd.int .u8) w A0 l0.length l0) (hc0 : l0.length ≤ c0) (hr1 : Kd.C (Kd.int .u8) w A1 l1.length l1) (hc1 : l1.length ≤ c1) (hb0 : isBytes l0) (hb1 : isBytes l1)
    (hstar : Aside0 (∀ n s, StarDom n s → ∃ L b cnt, StarVal n s L b cnt ∧ (b = true → ∃ sm cx small, StarOk n s L cnt sm cx small)))
    (htwo : Aside0 (∀ p a b c d, -1 ≤ p → p ≤ 4611686018427387904 → ChordDom p a b → ChordDom p c d → ∃ x y, TwoOk p a b c d x y))
    (hon : Aside0 (∀ n s a b, StarDom n s → ChordDom n a b → ∃ v y, impl_CrossingsOn.f 10000 n s a b = some (v, y) ∧ spec_CrossingsOn.f 10000 n s a b = some (v, y)))
    (hturn : Aside0 (∀ n s x, StarDom n s → PtDom n s x → ∃ T y, TurnOk n s x T y))
    (hlist : Aside0 (∀ n, n ∈ starNs → ∃ A B y str, ListOk n A B y str)) :
    Calls Try.prog 3 #[.slice A0 l0.length c0, .slice A1 l1.length c1] w fun e w' => e = .returned (.bool true) ∧ Below w.heap.size w w' := by
  have HR0 := Aside0.mk hr0
  have HR1 := Aside0.mk hr1
  have H0 := Aside0.mk hb0
  have H1 := Aside0.mk hb1
  have HBig := Aside0.mk (fun r h => laws_big.calls A0 c0 l0 A1 c1 l1 r w hr0 hc0 hr1 hc1 h)
  clear hr0 hr1 hb0 hb1
  go_enter Try.func3, Try.ntmps3
  go_wp2_with fail
  obtain ⟨r, hr⟩ : ∃ r, laws_big.f l0 l1 = some r := by unfold laws_big.f; split <;> exact ⟨_, rfl⟩
  refine (HBig.out r hr).mono ?_
  rintro e w1 ⟨rfl, ⟨⟨nd, rfl⟩⟩⟩
  clear hr HBig
  cases r with
  | true =>
    go_wp2
    go_ret
    exact ⟨rfl, pw_below_drewN (Below.refl _ _) _⟩
  | false =>
    go_wp2_with fail
    refine (drawChordsOf_calls A0 c0 l0 _ (Kd.C_drewN HR0.out _) H0.out).mono ?_
    rintro e w2 ⟨n, s, rfl, hd, hb2⟩
    obtain ⟨L, b, cnt, HV, hok⟩ := hstar.out n s hd
    have HOK := Aside0.mk hok
    have HV := Aside0.mk HV
    have hll := HV.out.len
    have HB2 := Aside0.mk (below_step (pw_below_drewN (Below.refl w.heap.size w) nd) hb2)
    clear hd hb2 hok hstar
    have hx0 : (w2.alloc (.cells #[.int .i64 n, .int .i64 s] 25 (0, 0))).cell? ⟨w2.heap.size, 0, none⟩ = some (.int .i64 n) := (blk_cell (blk_new w2 _) 0).trans rfl
    have hx1 : (w2.alloc (.cells #[.int .i64 n, .int .i64 s] 25 (0, 0))).cell? ⟨w2.heap.size, 1, none⟩ = some (.int .i64 s) := (blk_cell (blk_new w2 _) 1).trans rfl
    go_wp2_with fail
    clear hx0 hx1
    refine (impl_ChordsOf.calls 10000 n s L b _ HV.out.ci).mono ?_
    rintro e w3 ⟨v6, rfl, hL6, hb3⟩
    have HB3 := Aside0.mk (below_step (below_alloc HB2.out (.cells #[.int .i64 n, .int .i64 s] 25 (0, 0))) hb3)
    have BS3 := Aside0.mk (blk_below (blk_new w2 (.cells #[.int .i64 n, .int .i64 s] 25 (0, 0))) hb3)
    have HL6 := Aside0.mk hL6
    clear hL6 hb3 HB2
    have hx0 : w3.cell? ⟨w2.heap.size, 0, none⟩ = some (.int .i64 n) := (blk_cell BS3.out 0).trans rfl
    have hx1 : w3.cell? ⟨w2.heap.size, 1, none⟩ = some (.int .i64 s) := (blk_cell BS3.out 1).trans rfl
    go_wp2_with fail
    clear hx0 hx1
    refine (spec_ChordsOf.calls 10000 n s L b _ HV.out.cs).mono ?_
    rintro e w4 ⟨v8, rfl, hL8, hb4⟩
    obtain ⟨A6, c6, rfl, hl6, hC6⟩ := Kd.R_reads (Kd.R_below HL6.out hb4)
    obtain ⟨A8, c8, rfl, hl8, hC8⟩ := Kd.R_reads hL8
    have HF := Aside0.mk (fun (W : World) (hb : Below w4.heap.size w4 W) => (⟨Kd.C_below hC6 hb, Kd.C_below hC8 hb, blk_below (blk_below BS3.out hb4) hb, below_step (below_step HB3.out hb4) hb⟩ : Kd.C k34 W A6 L.length L ∧ Kd.C k34 W A8 L.length L ∧ W.heap[w2.heap.size]? = some (.cells #[.int .i64 n, .int .i64 s] 25 (0, 0)) ∧ Below w.heap.size w W))
    have HX := Aside0.mk (Below.refl w4.heap.size w4)
    clear hb4 hL8 hC6 hC8 HL6 HB3 BS3
    have hx0 : w4.cell? ⟨w2.heap.size, 0, none⟩ = some (.int .i64 n) := (blk_cell (HF.out _ HX.out).2.2.1 0).trans rfl
    have hx1 : w4.cell? ⟨w2.heap.size, 1, none⟩ = some (.int .i64 s) := (blk_cell (HF.out _ HX.out).2.2.1 1).trans rfl
    go_wp2_with fail
    clear hx0 hx1
    refine (impl_CountCrossings.calls 10000 n s cnt b _ HV.out.ni).mono ?_
    rintro e w5 ⟨rfl, hb⟩
    have HX5 := Aside0.mk (below_step HX.out hb)
    clear hb HX
    have hx0 : w5.cell? ⟨w2.heap.size, 0, none⟩ = some (.int .i64 n) := (blk_cell (HF.out _ HX5.out).2.2.1 0).trans rfl
    have hx1 : w5.cell? ⟨w2.heap.size, 1, none⟩ = some (.int .i64 s) := (blk_cell (HF.out _ HX5.out).2.2.1 1).trans rfl
    go_wp2_with fail
    clear hx0 hx1
    refine (spec_CountCrossings.calls 10000 n s cnt b _ HV.out.ns).mono ?_
    rintro e w6 ⟨rfl, hb⟩
    have HX6 := Aside0.mk (below_step HX5.out hb)
    clear hb HX5
    have q1 : (b != b) = false := by simp
    have q2 : (cnt != cnt) = false := by simp
    go_wp2_with fail
    refine (laws_uChords.calls 10000 A6 c6 L A8 c8 L true _ (HF.out _ HX6.out).1 hl6 (HF.out _ HX6.out).2.1 hl8 HV.out.uu).mono ?_
    rintro e w7 ⟨rfl, hb⟩
    have HX7 := Aside0.mk (below_step HX6.out hb.below)
    clear hb HX6
    go_upto_if 108 with (fail)
    clear q1 q2
    go_cut [14, 15, 16, 17, 18, 19, 20, 21, 22] from 109 to 238 (fun _ _ _ _ _ _ _ _ _ wx => Aside0 (Below w4.heap.size w4 wx))
    case first =>
      as_aux_lemma =>
      cases b with
      | false =>
        go_wp2_with fail
        go_meet
        case rel => exact HX7
      | true =>
        obtain ⟨sm, cx, small, ok⟩ := HOK.out rfl
        have OK := Aside0.mk ok
        obtain ⟨g1, g2, g3, g4⟩ := ok.hn
        have HS0 := Aside0.mk ok.s0
        clear ok HOK
        go_wp2_with fail
        go_loopg [14, 111] L.length (fun gg v14 v111 wr => ∃ i : Nat, v111 = .int .i64 (i : Int) ∧ v14 = .int .i64 (sm i) ∧ i ≤ L.length ∧ L.length - i ≤ gg ∧ Aside0 (Below w4.heap.size w4 wr))
        case atStart => exact ⟨0, rfl, by rw [HS0.out], Nat.zero_le _, by omega, HX7⟩
        case round =>
          clear HX7
          obtain ⟨i, rfl, rfl, hi, hmi, HX8⟩ := hrel
          by_cases hil : i < L.length
          · have c0b : decide ((i : Int) < (L.length : Int)) = true := decide_eq_true (by omega)
            obtain ⟨ho1, ho2, ho3, ho4, ho5, ho6⟩ := OK.out.on i hil
            obtain ⟨hr1, hr2⟩ := OK.out.ord i hil
            obtain ⟨ad, e6, m0, m1⟩ := at_T34 (HF.out _ HX8.out).1 (i : Int) (by omega) (by omega)
            subst e6
            rw [Int.toNat_natCast] at m0 m1
            obtain ⟨c, hc⟩ : ∃ c, rd_T34 L (i : Int) = c := ⟨_, rfl⟩
            rw [hc] at ho1 hr1 hr2 m0 m1
            have HO1 := Aside0.mk ho1
            have HO2 := Aside0.mk ho2
            have HR2 := Aside0.mk hr2
            have HC := Aside0.mk hc
            have HX9 := Aside0.mk (below_alloc HX8.out (.cells #[.int .i64 c.f0, .int .i64 c.f1] 34 (0, 0)))
            have hx0 : (wr.alloc (.cells #[.int .i64 c.f0, .int .i64 c.f1] 34 (0, 0))).cell? ⟨w2.heap.size, 0, none⟩ = some (.int .i64 n) := (blk_cell (HF.out _ HX9.out).2.2.1 0).trans rfl
            have hx1 : (wr.alloc (.cells #[.int .i64 c.f0, .int .i64 c.f1] 34 (0, 0))).cell? ⟨w2.heap.size, 1, none⟩ = some (.int .i64 s) := (blk_cell (HF.out _ HX9.out).2.2.1 1).trans rfl
            clear ho1 ho2 hr2 hc
            go_wp2_with fail
            clear hx0 hx1 m0 m1
            refine (impl_CrossingsOn.calls 10000 n s c.f0 c.f1 (cx i) true _ HO1.out).mono ?_
            rintro e w9 ⟨rfl, hb⟩
            have HXA := Aside0.mk (below_step HX9.out hb)
            have BC := Aside0.mk (blk_below (blk_new wr (.cells #[.int .i64 c.f0, .int .i64 c.f1] 34 (0, 0))) hb)
            clear hb HX9
            have hx0 : w9.cell? ⟨wr.heap.size, 0, none⟩ = some (.int .i64 c.f0) := (blk_cell BC.out 0).trans rfl
            have hx1 : w9.cell? ⟨wr.heap.size, 1, none⟩ = some (.int .i64 c.f1) := (blk_cell BC.out 1).trans rfl
            have e1 : decide (c.f0 ≥ c.f1) = false := decide_eq_false (by omega)
            have fin : Aside0 (∃ i' : Nat, Value.int IntKind.i64 ((i : Int) + 1) = .int .i64 (i' : Int) ∧ Value.int IntKind.i64 (sm i + cx i) = .int .i64 (sm i') ∧ i' ≤ L.length ∧ L.length - i' ≤ L.length - (i + 1)) := ⟨i + 1, by go_num, by rw [HO2.out], by omega, Nat.le_refl _⟩
            go_wp2_with fail
            by_cases hi0 : 0 < i
            · have e2 : decide ((i : Int) > 0) = true := decide_eq_true (by omega)
              obtain ⟨ad2, e6, p0, p1⟩ := at_T34 (HF.out _ HXA.out).1 ((i - 1 : Nat) : Int) (by omega) (by omega)
              obtain rfl : ad = ad2 := Option.some.inj e6
              clear e6
              have HR3 := HR2.out hi0
              obtain ⟨d, hd⟩ : ∃ d, rd_T34 L ((i - 1 : Nat) : Int) = d := ⟨_, rfl⟩
              rw [hd] at p0 p1 HR3
              clear hd
              obtain ⟨J, hJ⟩ : ∃ J, (i : Int) - 1 = J := ⟨_, rfl⟩
              have ez : ((i - 1 : Nat) : Int) = J := by omega
              rw [ez] at p0 p1
              have w0 : IntKind.i64.wrap ((i : Int) - 1) = J := by rw [hJ]; exact IntWalk.i64_in _ (by omega)
              have z0 : 0 ≤ J := by omega
              have z1 : J < (L.length : Int) := by omega
              have e3 : decide (d.f0 > c.f0) = false := decide_eq_false (by omega)
              by_cases heq : d.f0 = c.f0
              · have e4 : (d.f0 == c.f0) = true := beq_iff_eq.2 heq
                have e5 : decide (d.f1 ≥ c.f1) = false := decide_eq_false (by omega)
                have HEQ := Aside0.mk heq
                have HEZ := Aside0.mk ez
                clear heq ez hJ
                go_quiet (fail)
                go_wp2_with fail
                go_roundg (L.length - (i + 1))
                case measure => omega
                case rel =>
                  obtain ⟨i', f1, f2, f3, f4⟩ := fin.out
                  exact ⟨i', f1, f2, f3, f4, ⟨pw_below_drewN HXA.out _⟩⟩
              · have e4 : (d.f0 == c.f0) = false := beq_eq_false_iff_ne.2 heq
                have HEZ := Aside0.mk ez
                clear heq ez hJ
                go_quiet (fail)
                go_wp2_with fail
                go_roundg (L.length - (i + 1))
                case measure => omega
                case rel =>
                  obtain ⟨i', f1, f2, f3, f4⟩ := fin.out
                  exact ⟨i', f1, f2, f3, f4, ⟨pw_below_drewN HXA.out _⟩⟩
            · have e2 : decide ((i : Int) > 0) = false := decide_eq_false (by omega)
              have e3 : decide (0 < i) = false := decide_eq_false hi0
              go_quiet (fail)
              go_wp2_with fail
              go_roundg (L.length - (i + 1))
              case measure => omega
              case rel =>
                obtain ⟨i', f1, f2, f3, f4⟩ := fin.out
                exact ⟨i', f1, f2, f3, f4, ⟨pw_below_drewN HXA.out _⟩⟩
          · obtain rfl : i = L.length := by omega
            have c0b : decide ((L.length : Int) < (L.length : Int)) = false := decide_eq_false (by omega)
            have hx0 : wr.cell? ⟨w2.heap.size, 0, none⟩ = some (.int .i64 n) := (blk_cell (HF.out _ HX8.out).2.2.1 0).trans rfl
            have hx1 : wr.cell? ⟨w2.heap.size, 1, none⟩ = some (.int .i64 s) := (blk_cell (HF.out _ HX8.out).2.2.1 1).trans rfl
            go_wp2_with fail
            clear hx0 hx1 c0b
            refine (impl_SmallStep.calls n s small true _ OK.out.sst).mono ?_
            rintro e w9 ⟨rfl, hb⟩
            have HX9 := Aside0.mk (below_step HX8.out hb)
            clear hb HX8
            have hx0 : w9.cell? ⟨w2.heap.size, 0, none⟩ = some (.int .i64 n) := (blk_cell (HF.out _ HX9.out).2.2.1 0).trans rfl
            have hx1 : w9.cell? ⟨w2.heap.size, 1, none⟩ = some (.int .i64 s) := (blk_cell (HF.out _ HX9.out).2.2.1 1).trans rfl
            go_wp2_with fail
            clear hx0 hx1
            refine (impl_ChordsOf.calls 10000 n (n - s) L true _ OK.out.other).mono ?_
            rintro e wA ⟨vO, rfl, hO, hb⟩
            have HXA := Aside0.mk (below_step HX9.out hb)
            obtain ⟨AO, cO, rfl, hlO, hCO⟩ := Kd.R_reads hO
            have HCO := Aside0.mk hCO
            clear hb HX9 hO hCO
            have q1 : (sm L.length != wrap64 (2 * cnt)) = false := by rw [OK.out.sl]; have := OK.out.cb; unfold wrap64; simp; omega
            have q2 : (sm L.length != 2 * cnt) = false := by rw [OK.out.sl]; simp
            go_wp2_with fail
            refine (laws_uChords.calls 10000 AO cO L A6 c6 L true _ HCO.out hlO (HF.out _ HXA.out).1 hl6 HV.out.uu).mono ?_
            rintro e wB ⟨rfl, hb⟩
            have HXB := Aside0.mk (below_step HXA.out hb.below)
            clear hb HXA HCO
            obtain ⟨hs1, hs2⟩ := OK.out.sb
            obtain ⟨hq1, hq2⟩ := OK.out.cb
            have hx0 : wB.cell? ⟨w2.heap.size, 0, none⟩ = some (.int .i64 n) := (blk_cell (HF.out _ HXB.out).2.2.1 0).trans rfl
            by_cases hf : 2 * small < n
            · have e1 : decide (2 * small < n) = true := decide_eq_true hf
              obtain ⟨f1, f2⟩ := OK.out.full hf
              have e2 : ((L.length : Int) != n) = false := by rw [f1]; simp
              have e3 : (cnt != wrap64 (n * (small - 1))) = false := by rw [← f2]; unfold wrap64; simp; omega
              clear f1 f2
              go_wp2_with fail
              go_meet
              case rel => exact HXB
            · have e1 : decide (2 * small < n) = false := decide_eq_false hf
              obtain ⟨f1, f2⟩ := OK.out.half hf
              have e2 : ((L.length : Int) != small) = false := by rw [f1]; simp
              have e3 : (cnt != wrap64 ((wrap64 (small * (small - 1))).tdiv 2)) = false := by rw [← f2]; simp
              clear f1 f2
              go_wp2_with fail
              go_meet
              case rel => exact HXB
    case rest =>
      as_aux_lemma =>
      clear HX7 HOK HV hll hl6 hl8
      have HW := Aside0.mk (HF.out _ hcut.out).2.2.2
      clear HF hcut
      go_wp2_with fail
      refine (drawAreCrossing_calls A1 c1 l1 _ (Kd.C_below HR1.out HW.out) H1.out).mono ?_
      rintro e x1 ⟨p, a, b, c, d, rfl, hp0, hp1, hab, hcd, hb⟩
      have HW1 := Aside0.mk (below_step HW.out hb)
      obtain ⟨cr, y3, htwo⟩ := htwo.out p a b c d hp0 hp1 hab hcd
      have HT := Aside0.mk htwo
      have HBC := Aside0.mk (fun (W : World) (hb : Below ((x1.alloc (.cells #[.int .i64 a, .int .i64 b] 34 (0, 0))).alloc (.cells #[.int .i64 c, .int .i64 d] 34 (0, 0))).heap.size ((x1.alloc (.cells #[.int .i64 a, .int .i64 b] 34 (0, 0))).alloc (.cells #[.int .i64 c, .int .i64 d] 34 (0, 0))) W) => (⟨blk_below (blk_alloc (blk_new x1 (.cells #[.int .i64 a, .int .i64 b] 34 (0, 0))) (.cells #[.int .i64 c, .int .i64 d] 34 (0, 0))) hb, blk_below (blk_at (blk_new (x1.alloc (.cells #[.int .i64 a, .int .i64 b] 34 (0, 0))) (.cells #[.int .i64 c, .int .i64 d] 34 (0, 0))) (b := x1.heap.size + 1) (by simp)) hb⟩ : W.heap[x1.heap.size]? = some (.cells #[.int .i64 a, .int .i64 b] 34 (0, 0)) ∧ W.heap[x1.heap.size + 1]? = some (.cells #[.int .i64 c, .int .i64 d] 34 (0, 0))))
      have HX := Aside0.mk (Below.refl ((x1.alloc (.cells #[.int .i64 a, .int .i64 b] 34 (0, 0))).alloc (.cells #[.int .i64 c, .int .i64 d] 34 (0, 0))).heap.size ((x1.alloc (.cells #[.int .i64 a, .int .i64 b] 34 (0, 0))).alloc (.cells #[.int .i64 c, .int .i64 d] 34 (0, 0))))
      have HWX := Aside0.mk (fun (W : World) (hb : Below ((x1.alloc (.cells #[.int .i64 a, .int .i64 b] 34 (0, 0))).alloc (.cells #[.int .i64 c, .int .i64 d] 34 (0, 0))).heap.size ((x1.alloc (.cells #[.int .i64 a, .int .i64 b] 34 (0, 0))).alloc (.cells #[.int .i64 c, .int .i64 d] 34 (0, 0))) W) => below_step (below_alloc (below_alloc HW1.out (.cells #[.int .i64 a, .int .i64 b] 34 (0, 0))) (.cells #[.int .i64 c, .int .i64 d] 34 (0, 0))) hb)
      clear hb HW hab hcd htwo HW1
      go_wp2_with fail
      generalize (x1.alloc (.cells #[.int .i64 a, .int .i64 b] 34 (0, 0))).alloc (.cells #[.int .i64 c, .int .i64 d] 34 (0, 0)) = x2 at HBC HX HWX ⊢
      refine (impl_AreCrossing.calls p a b c d cr y3 _ HT.out.ii).mono ?_
      rintro e x3 ⟨rfl, hb⟩
      have HX3 := Aside0.mk (below_step HX.out hb)
      clear hb HX
      have hx00 : x3.cell? ⟨x1.heap.size, 0, none⟩ = some (.int .i64 a) := (blk_cell (HBC.out _ HX3.out).1 0).trans rfl
      have hx01 : x3.cell? ⟨x1.heap.size, 1, none⟩ = some (.int .i64 b) := (blk_cell (HBC.out _ HX3.out).1 1).trans rfl
      have hx10 : x3.cell? ⟨(x1.heap.size + 1), 0, none⟩ = some (.int .i64 c) := (blk_cell (HBC.out _ HX3.out).2 0).trans rfl
      have hx11 : x3.cell? ⟨(x1.heap.size + 1), 1, none⟩ = some (.int .i64 d) := (blk_cell (HBC.out _ HX3.out).2 1).trans rfl
      go_wp2_with fail
      clear hx00 hx01 hx10 hx11
      refine (spec_AreCrossing.calls p a b c d cr y3 _ HT.out.ss).mono ?_
      rintro e x4 ⟨rfl, hb⟩
      have HX4 := Aside0.mk (below_step HX3.out hb)
      clear hb HX3
      go_wp2_with fail
      refine (drawCrossingsOn_calls A1 c1 l1 _ (Kd.C_below HR1.out (HWX.out _ HX4.out)) H1.out).mono ?_
      rintro e x5 ⟨n2, s2, a2, b2, rfl, hd2, hc2, hb⟩
      obtain ⟨v, y5, hon1, hon2⟩ := hon.out n2 s2 a2 b2 hd2 hc2
      have HON1 := Aside0.mk hon1
      have HON2 := Aside0.mk hon2
      have HX5 := Aside0.mk (below_step HX4.out hb)
      clear hb HX4 hd2 hc2 hon1 hon2
      have HBE := Aside0.mk (fun (W : World) (hb : Below ((x5.alloc (.cells #[.int .i64 n2, .int .i64 s2] 25 (0, 0))).alloc (.cells #[.int .i64 a2, .int .i64 b2] 34 (0, 0))).heap.size ((x5.alloc (.cells #[.int .i64 n2, .int .i64 s2] 25 (0, 0))).alloc (.cells #[.int .i64 a2, .int .i64 b2] 34 (0, 0))) W) => (⟨blk_below (blk_alloc (blk_new x5 (.cells #[.int .i64 n2, .int .i64 s2] 25 (0, 0))) (.cells #[.int .i64 a2, .int .i64 b2] 34 (0, 0))) hb, blk_below (blk_at (blk_new (x5.alloc (.cells #[.int .i64 n2, .int .i64 s2] 25 (0, 0))) (.cells #[.int .i64 a2, .int .i64 b2] 34 (0, 0))) (b := x5.heap.size + 1) (by simp)) hb, below_step (below_alloc (below_alloc HX5.out (.cells #[.int .i64 n2, .int .i64 s2] 25 (0, 0))) (.cells #[.int .i64 a2, .int .i64 b2] 34 (0, 0))) hb⟩ : W.heap[x5.heap.size]? = some (.cells #[.int .i64 n2, .int .i64 s2] 25 (0, 0)) ∧ W.heap[x5.heap.size + 1]? = some (.cells #[.int .i64 a2, .int .i64 b2] 34 (0, 0)) ∧ Below x2.heap.size x2 W))
      have HY := Aside0.mk (Below.refl ((x5.alloc (.cells #[.int .i64 n2, .int .i64 s2] 25 (0, 0))).alloc (.cells #[.int .i64 a2, .int .i64 b2] 34 (0, 0))).heap.size ((x5.alloc (.cells #[.int .i64 n2, .int .i64 s2] 25 (0, 0))).alloc (.cells #[.int .i64 a2, .int .i64 b2] 34 (0, 0))))
      clear HX5
      go_wp2_with fail
      generalize (x5.alloc (.cells #[.int .i64 n2, .int .i64 s2] 25 (0, 0))).alloc (.cells #[.int .i64 a2, .int .i64 b2] 34 (0, 0)) = x6 at HBE HY ⊢
      refine (impl_CrossingsOn.calls 10000 n2 s2 a2 b2 v y5 _ HON1.out).mono ?_
      rintro e x7 ⟨rfl, hb⟩
      have HY7 := Aside0.mk (below_step HY.out hb)
      clear hb HY
      have hx00 : x7.cell? ⟨x5.heap.size, 0, none⟩ = some (.int .i64 n2) := (blk_cell (HBE.out _ HY7.out).1 0).trans rfl
      have hx01 : x7.cell? ⟨x5.heap.size, 1, none⟩ = some (.int .i64 s2) := (blk_cell (HBE.out _ HY7.out).1 1).trans rfl
      have hx10 : x7.cell? ⟨(x5.heap.size + 1), 0, none⟩ = some (.int .i64 a2) := (blk_cell (HBE.out _ HY7.out).2.1 0).trans rfl
      have hx11 : x7.cell? ⟨(x5.heap.size + 1), 1, none⟩ = some (.int .i64 b2) := (blk_cell (HBE.out _ HY7.out).2.1 1).trans rfl
      go_wp2_with fail
      clear hx00 hx01 hx10 hx11
      refine (spec_CrossingsOn.calls 10000 n2 s2 a2 b2 v y5 _ HON2.out).mono ?_
      rintro e x8 ⟨rfl, hb⟩
      have HX8 := Aside0.mk (HBE.out _ (below_step HY7.out hb)).2.2
      clear hb HY7 HBE HON1 HON2
      go_wp2_with fail
      refine (drawTurnedStar_calls A1 c1 l1 _ (Kd.C_below HR1.out (HWX.out _ HX8.out)) H1.out).mono ?_
      rintro e x9 ⟨q, sq, by_, rfl, hdq, hpq, hb⟩
      obtain ⟨T, y7, hturn⟩ := hturn.out q sq by_ hdq hpq
      have HTU := Aside0.mk hturn
      have HX9 := Aside0.mk (below_step HX8.out hb)
      have hlt := hturn.len
      clear hb HX8 hdq hpq hturn
      have HBQ := Aside0.mk (fun (W : World) (hb : Below (x9.alloc (.cells #[.int .i64 q, .int .i64 sq] 25 (0, 0))).heap.size (x9.alloc (.cells #[.int .i64 q, .int .i64 sq] 25 (0, 0))) W) => (⟨blk_below (blk_new x9 (.cells #[.int .i64 q, .int .i64 sq] 25 (0, 0))) hb, below_step (below_alloc HX9.out (.cells #[.int .i64 q, .int .i64 sq] 25 (0, 0))) hb⟩ : W.heap[x9.heap.size]? = some (.cells #[.int .i64 q, .int .i64 sq] 25 (0, 0)) ∧ Below x2.heap.size x2 W))
      have HY := Aside0.mk (Below.refl (x9.alloc (.cells #[.int .i64 q, .int .i64 sq] 25 (0, 0))).heap.size (x9.alloc (.cells #[.int .i64 q, .int .i64 sq] 25 (0, 0))))
      clear HX9
      go_wp2_with fail
      generalize x9.alloc (.cells #[.int .i64 q, .int .i64 sq] 25 (0, 0)) = xA at HBQ HY ⊢
      refine (impl_TurnedStar.calls 10000 q sq by_ T y7 _ HTU.out.ii).mono ?_
      rintro e xB ⟨v38, rfl, hT, hb⟩
      have HYB := Aside0.mk (below_step HY.out hb)
      have HTB := Aside0.mk hT
      clear hb HY hT
      have hx00 : xB.cell? ⟨x9.heap.size, 0, none⟩ = some (.int .i64 q) := (blk_cell (HBQ.out _ HYB.out).1 0).trans rfl
      have hx01 : xB.cell? ⟨x9.heap.size, 1, none⟩ = some (.int .i64 sq) := (blk_cell (HBQ.out _ HYB.out).1 1).trans rfl
      go_wp2_with fail
      clear hx00 hx01
      refine (spec_TurnedStar.calls 10000 q sq by_ T y7 _ HTU.out.ss).mono ?_
      rintro e xC ⟨v40, rfl, hT, hb⟩
      have HYC := Aside0.mk (below_step HYB.out hb)
      obtain ⟨A38, c38, rfl, hl38, hC38⟩ := Kd.R_reads (Kd.R_below HTB.out hb)
      obtain ⟨A40, c40, rfl, hl40, hC40⟩ := Kd.R_reads hT
      have HF := Aside0.mk (fun (W : World) (hb : Below xC.heap.size xC W) => (⟨Kd.C_below hC38 hb, Kd.C_below hC40 hb, (HBQ.out _ (below_step HYC.out hb)).1, (HBQ.out _ (below_step HYC.out hb)).2⟩ : Kd.C k34 W A38 T.length T ∧ Kd.C k34 W A40 T.length T ∧ W.heap[x9.heap.size]? = some (.cells #[.int .i64 q, .int .i64 sq] 25 (0, 0)) ∧ Below x2.heap.size x2 W))
      have HZ := Aside0.mk (Below.refl xC.heap.size xC)
      clear hb hT hC38 hC40 HTB HYB HYC HBQ
      go_wp2_with fail
      refine (drawStarsOf_calls A1 c1 l1 _ (Kd.C_below HR1.out (HWX.out _ (HF.out _ HZ.out).2.2.2)) H1.out).mono ?_
      rintro e xD ⟨nn, rfl, hnn, hb⟩
      obtain ⟨LA, LB, y9, str, hlist⟩ := hlist.out nn hnn
      have HLI := Aside0.mk hlist
      obtain ⟨hla, hlb⟩ := hlist.len
      obtain ⟨hnb0, hnb1⟩ := hlist.nb
      have HZD := Aside0.mk (below_step HZ.out hb)
      clear hb HZ hnn hlist
      go_wp2_with fail
      refine (impl_StarsOf.calls nn LA y9 _ HLI.out.ii).mono ?_
      rintro e xE ⟨v43, rfl, h43, hb⟩
      have HZE := Aside0.mk (below_step HZD.out hb)
      have H43 := Aside0.mk h43
      clear hb HZD h43
      go_wp2_with fail
      refine (spec_StarsOf.calls 10000 nn LA y9 _ HLI.out.ss).mono ?_
      rintro e xF ⟨v45, rfl, h45, hb⟩
      have HZF := Aside0.mk (below_step HZE.out hb)
      have H43b := Aside0.mk (Kd.R_below H43.out hb)
      have H45 := Aside0.mk h45
      clear hb HZE h45 H43
      go_wp2_with fail
      refine (impl_OneString.calls nn LB y9 _ HLI.out.oi).mono ?_
      rintro e xG ⟨v47, rfl, h47, hb⟩
      have HZG := Aside0.mk (below_step HZF.out hb)
      have H43c := Aside0.mk (Kd.R_below H43b.out hb)
      have H45c := Aside0.mk (Kd.R_below H45.out hb)
      have H47 := Aside0.mk h47
      clear hb HZF h47 H43b H45
      go_wp2_with fail
      refine (spec_OneString.calls 10000 nn LB y9 _ HLI.out.os).mono ?_
      rintro e xH ⟨v49, rfl, h49, hb⟩
      obtain ⟨A43, c43, rfl, hl43, hC43⟩ := Kd.R_reads (Kd.R_below H43c.out hb)
      obtain ⟨A45, c45, rfl, hl45, hC45⟩ := Kd.R_reads (Kd.R_below H45c.out hb)
      obtain ⟨A47, c47, rfl, hl47, hC47⟩ := Kd.R_reads (Kd.R_below H47.out hb)
      obtain ⟨A49, c49, rfl, hl49, hC49⟩ := Kd.R_reads h49
      have HG := Aside0.mk (fun (W : World) (hw : Below xH.heap.size xH W) => (⟨Kd.C_below hC43 hw, Kd.C_below hC45 hw, Kd.C_below hC47 hw, Kd.C_below hC49 hw, HF.out _ (below_step (below_step HZG.out hb) hw)⟩ : Kd.C (Kd.int .i64) W A43 LA.length LA ∧ Kd.C (Kd.int .i64) W A45 LA.length LA ∧ Kd.C (Kd.int .i64) W A47 LB.length LB ∧ Kd.C (Kd.int .i64) W A49 LB.length LB ∧ _))
      have HU := Aside0.mk (Below.refl xH.heap.size xH)
      clear hb h49 hC43 hC45 hC47 hC49 H43c H45c H47 HZG HF
      have q1 : (y3 != y3) = false := by simp
      have q2 : (cr != cr) = false := by simp
      have q3 : (y5 != y5) = false := by simp
      have q4 : (v != v) = false := by simp
      have q5 : (y7 != y7) = false := by simp
      have q6 : (y9 != y9) = false := by simp
      go_wp2_with fail
      refine (laws_uChords.calls 10000 A38 c38 T A40 c40 T true _ (HG.out _ HU.out).2.2.2.2.1 hl38 (HG.out _ HU.out).2.2.2.2.2.1 hl40 HTU.out.uu).mono ?_
      rintro e xI ⟨rfl, hb⟩
      have HU2 := Aside0.mk (below_step HU.out hb.below)
      clear hb HU
      go_wp2_with fail
      refine (laws_uSame.calls 10000 A43 c43 LA A45 c45 LA true _ (HG.out _ HU2.out).1 hl43 (HG.out _ HU2.out).2.1 hl45 HLI.out.ua).mono ?_
      rintro e xJ ⟨rfl, hb⟩
      have HU3 := Aside0.mk (below_step HU2.out hb.below)
      clear hb HU2
      go_wp2_with fail
      refine (laws_uSame.calls 10000 A47 c47 LB A49 c49 LB true _ (HG.out _ HU3.out).2.2.1 hl47 (HG.out _ HU3.out).2.2.2.1 hl49 HLI.out.ub).mono ?_
      rintro e xK ⟨rfl, hb⟩
      have HU4 := Aside0.mk (below_step HU3.out hb.below)
      clear hb HU3
      go_upto_if 371 with (fail)
      clear q1 q2 q3 q4 q5 q6
      go_cut [51, 52] from 372 to 416 (fun _ _ wx => Aside0 (Below xH.heap.size xH wx))
      case first =>
        as_aux_lemma =>
        cases y3 with
        | false =>
          go_wp2_with fail
          go_meet
          case rel => exact HU4
        | true =>
          have HAP := Aside0.mk (HT.out.apart rfl)
          have HBA := Aside0.mk (HT.out.back rfl)
          have hx00 : xK.cell? ⟨x1.heap.size, 0, none⟩ = some (.int .i64 a) := (blk_cell (HBC.out _ (HG.out _ HU4.out).2.2.2.2.2.2.2).1 0).trans rfl
          have hx01 : xK.cell? ⟨x1.heap.size, 1, none⟩ = some (.int .i64 b) := (blk_cell (HBC.out _ (HG.out _ HU4.out).2.2.2.2.2.2.2).1 1).trans rfl
          have hx10 : xK.cell? ⟨x1.heap.size + 1, 0, none⟩ = some (.int .i64 c) := (blk_cell (HBC.out _ (HG.out _ HU4.out).2.2.2.2.2.2.2).2 0).trans rfl
          have hx11 : xK.cell? ⟨x1.heap.size + 1, 1, none⟩ = some (.int .i64 d) := (blk_cell (HBC.out _ (HG.out _ HU4.out).2.2.2.2.2.2.2).2 1).trans rfl
          go_wp2_with fail
          clear hx00 hx01 hx10 hx11
          refine (impl_AreCrossing.calls p c d a b cr true _ HBA.out).mono ?_
          rintro e xL ⟨rfl, hb⟩
          have HU5 := Aside0.mk (below_step HU4.out hb)
          clear hb HU4
          have hx00 : xL.cell? ⟨x1.heap.size, 0, none⟩ = some (.int .i64 a) := (blk_cell (HBC.out _ (HG.out _ HU5.out).2.2.2.2.2.2.2).1 0).trans rfl
          have hx01 : xL.cell? ⟨x1.heap.size, 1, none⟩ = some (.int .i64 b) := (blk_cell (HBC.out _ (HG.out _ HU5.out).2.2.2.2.2.2.2).1 1).trans rfl
          have hx10 : xL.cell? ⟨x1.heap.size + 1, 0, none⟩ = some (.int .i64 c) := (blk_cell (HBC.out _ (HG.out _ HU5.out).2.2.2.2.2.2.2).2 0).trans rfl
          have hx11 : xL.cell? ⟨x1.heap.size + 1, 1, none⟩ = some (.int .i64 d) := (blk_cell (HBC.out _ (HG.out _ HU5.out).2.2.2.2.2.2.2).2 1).trans rfl
          have q1 : (cr != cr) = false := by simp
          cases cr with
          | false =>
            go_wp2_with fail
            go_meet
            case rel => exact HU5
          | true =>
            obtain ⟨z1, z2, z3, z4⟩ := HAP.out rfl
            have e1 : (a == c) = false := beq_eq_false_iff_ne.2 z1
            have e2 : (a == d) = false := beq_eq_false_iff_ne.2 z2
            have e3 : (b == c) = false := beq_eq_false_iff_ne.2 z3
            have e4 : (b == d) = false := beq_eq_false_iff_ne.2 z4
            clear z1 z2 z3 z4
            go_wp2_with fail
            go_meet
            case rel => exact HU5
      case rest =>
        as_aux_lemma =>
        clear HU4 HT HBC
        have HU := hcut
        clear hcut
        go_upto_if 417 with (fail)
        go_cut [53, 54] from 418 to 430 (fun _ _ wx => Aside0 (Below xH.heap.size xH wx))
        case first =>
          as_aux_lemma =>
          cases y7 with
          | false =>
            go_wp2_with fail
            go_meet
            case rel => exact HU
          | true =>
            have HSA := Aside0.mk (HTU.out.same rfl)
            have hx00 : wc.cell? ⟨x9.heap.size, 0, none⟩ = some (.int .i64 q) := (blk_cell (HG.out _ HU.out).2.2.2.2.2.2.1 0).trans rfl
            have hx01 : wc.cell? ⟨x9.heap.size, 1, none⟩ = some (.int .i64 sq) := (blk_cell (HG.out _ HU.out).2.2.2.2.2.2.1 1).trans rfl
            go_wp2_with fail
            clear hx00 hx01
            refine (impl_ChordsOf.calls 10000 q sq T true _ HSA.out).mono ?_
            rintro e xL ⟨vT, rfl, hT, hb⟩
            have HU5 := Aside0.mk (below_step HU.out hb)
            obtain ⟨AT, cT, rfl, hlT, hCT⟩ := Kd.R_reads hT
            have HCT := Aside0.mk hCT
            clear hb HU hT hCT
            go_wp2_with fail
            refine (laws_uChords.calls 10000 AT cT T A38 c38 T true _ HCT.out hlT (HG.out _ HU5.out).2.2.2.2.1 hl38 HTU.out.uu).mono ?_
            rintro e xM ⟨rfl, hb⟩
            have HU6 := Aside0.mk (below_step HU5.out hb.below)
            clear hb HU5 HCT
            go_wp2_with fail
            go_meet
            case rel => exact HU6
        case rest =>
          as_aux_lemma =>
          clear HU HTU
          have HU := hcut
          clear hcut
          have HFIN := Aside0.mk (fun (W : World) (hb : Below xH.heap.size xH W) => HWX.out _ (HG.out _ hb).2.2.2.2.2.2.2)
          cases y9 with
          | false =>
            go_wp2
            go_ret
            exact ⟨rfl, HFIN.out _ HU.out⟩
          | true =>
            have HRA := Aside0.mk (HLI.out.ra rfl)
            have HRB := Aside0.mk (HLI.out.rb rfl)
            obtain ⟨hh1, hh2⟩ := HLI.out.half rfl
            have HON := Aside0.mk (HLI.out.one rfl)
            have q1 : ((LA.length : Int) != nn / 2) = false := by rw [hh1]; simp
            clear hh1 HLI
            go_wp2_with fail
            refine (laws_uRises.calls 10000 A43 c43 LA true _ (HG.out _ HU.out).1 hl43 HRA.out).mono ?_
            rintro e xL ⟨rfl, hb⟩
            have HU5 := Aside0.mk (below_step HU.out hb.below)
            clear hb HU
            go_wp2_with fail
            refine (laws_uRises.calls 10000 A47 c47 LB true _ (HG.out _ HU5.out).2.2.1 hl47 HRB.out).mono ?_
            rintro e xM ⟨rfl, hb⟩
            have HU6 := Aside0.mk (below_step HU5.out hb.below)
            clear hb HU5
            go_wp2_with fail
            clear q1
            go_loopg [449] LA.length (fun gg v449 wr => ∃ i : Nat, v449 = .int .i64 (i : Int) ∧ i ≤ LA.length ∧ LA.length - i ≤ gg ∧ Aside0 (Below xH.heap.size xH wr))
            case atStart => exact ⟨0, rfl, Nat.zero_le _, by omega, HU6⟩
            case round =>
              clear HU6
              obtain ⟨i, rfl, hi, hmi, HX8⟩ := hrel
              by_cases hil : i < LA.length
              · have c0b : decide ((i : Int) < (LA.length : Int)) = true := decide_eq_true (by omega)
                obtain ⟨ho1, ho2⟩ := HON.out i hil
                obtain ⟨ad, e6, m0⟩ := Kd.at_int (HG.out _ HX8.out).1 (i : Int) (by omega) (by omega)
                subst e6
                rw [Int.toNat_natCast] at m0
                obtain ⟨st, hst⟩ : ∃ st, rd LA (i : Int) = st := ⟨_, rfl⟩
                rw [hst] at ho1 ho2 m0
                obtain ⟨sv, hsv⟩ : ∃ sv, str i = sv := ⟨_, rfl⟩
                rw [hsv] at ho1 ho2
                have HO1 := Aside0.mk ho1
                have HO2 := Aside0.mk ho2
                clear ho1 ho2 hst hsv
                go_wp2_with fail
                clear m0
                refine (impl_CountStrings.calls 10000 nn st sv true _ HO1.out).mono ?_
                rintro e xN ⟨rfl, hb⟩
                have HX9 := Aside0.mk (below_step HX8.out hb)
                clear hb HX8
                go_wp2_with fail
                refine (laws_uHas.calls 10000 A47 c47 LB st (sv == 1) _ (HG.out _ HX9.out).2.2.1 hl47 HO2.out).mono ?_
                rintro e xO ⟨rfl, hb⟩
                have HXA := Aside0.mk (below_step HX9.out hb.below)
                have q2 : ((sv == 1) != (sv == 1)) = false := by simp
                clear hb HX9
                go_wp2_with fail
                go_roundg (LA.length - (i + 1))
                case measure => omega
                case rel => exact ⟨i + 1, by go_num, by omega, Nat.le_refl _, HXA⟩
              · obtain rfl : i = LA.length := by omega
                have c0b : decide ((LA.length : Int) < (LA.length : Int)) = false := decide_eq_false (by omega)
                go_wp2
                go_ret
                exact ⟨rfl, HFIN.out _ HX8.out⟩
end Go.Proofs.Ytnjocighalandaa.X
end
section
namespace Go.Proofs.Ytnjocighalandaa.X
open Go.RowKit Go.Proofs.YtnjocighalandaaW.PrintWords Go.Proofs.YtnjocighalandaaW.PrintLast Go.Proofs.YtnjocighalandaaW.PrintMore
attribute [local go_sem] max2_int min2_int max_two min_two max_three min_three max_four min_four
set_option linter.unusedVariables false
set_option linter.unusedSimpArgs false
open Classical in
noncomputable def laws_FnStarsCross.f (l0 l1 : List Int) : Option Bool := if isBytes l0 ∧ isBytes l1 then some true else none
theorem laws_FnStarsCross.calls (A0 : Option Addr) (c0 : Nat) (l0 : List Int) (A1 : Option Addr) (c1 : Nat) (l1 : List Int) (r : Bool) (w : World) (hr0 : Kd.C (Kd.int .u8) w A0 l0.length l0) (hc0 : l0.length ≤ c0) (hr1 : Kd.C (Kd.int .u8) w A1 l1.length l1) (hc1 : l1.length ≤ c1) (h : laws_FnStarsCross.f l0 l1 = some r) :
    Calls Try.prog 3 #[.slice A0 l0.length c0, .slice A1 l1.length c1] w fun e w' => e = .returned (.bool r) ∧ Below w.heap.size w w' := by
  unfold laws_FnStarsCross.f at h
  split at h
  · rename_i hb
    obtain rfl := Option.some.inj h
    exact law_walk A0 c0 l0 A1 c1 l1 w hr0 hc0 hr1 hc1 hb.1 hb.2 ⟨star_facts⟩ ⟨fun p a b c d _ _ _ _ => two_facts p a b c d⟩ ⟨fun n s a b _ _ => by
      obtain ⟨v, y, h1, h2, _⟩ := crossingsOn_val n s a b
      exact ⟨v, y, h1, h2⟩⟩ ⟨fun n s x _ _ => turn_facts n s x⟩ ⟨list_facts⟩
  · cases h
end Go.Proofs.Ytnjocighalandaa.X
end
section
namespace Go.Proofs.Ytnjocighalandaa.Q
open Go.RowKit Go.Proofs.Ytnjocighalandaa.X Go.Proofs.YtnjocighalandaaW.PrintWords Go.Proofs.YtnjocighalandaaW.PrintLast Go.Proofs.YtnjocighalandaaW.PrintMore
set_option linter.unusedVariables false
set_option linter.unusedSimpArgs false
theorem byte_wf {l : List Int} (h : ∀ x ∈ l, (Lit.int .u8 x).wf = true) : isBytes l := by
  intro x hx
  have := h x hx
  simp only [Lit.wf, IntKind.min, IntKind.max, IntKind.signed, IntKind.bits, Bool.and_eq_true, decide_eq_true_eq] at this
  simp at this
  omega
theorem FnStarsCross : ∀ (l0 l1 : List Int), (∀ x ∈ l0, (Lit.int .u8 x).wf = true) → (∀ x ∈ l1, (Lit.int .u8 x).wf = true) → laws_FnStarsCross.f l0 l1 = some true := by
  intro l0 l1 h0 h1
  unfold laws_FnStarsCross.f
  rw [if_pos ⟨byte_wf h0, byte_wf h1⟩]
end Go.Proofs.Ytnjocighalandaa.Q
end
section
namespace Go.Proofs.Ytnjocighalandaa.XRow
open Go.ChangeShapes Go.WideShapes Go.RowKit Go.Proofs.Ytnjocighalandaa.X Go.Proofs.YtnjocighalandaaW.PrintWords
theorem open_row_int {H : Type} {enc : TypeId × Value → H} {P : Program} {W : World} {r : Reach} {b0 base : Nat} {held : Bool} {t e : TypeId} {k : IntKind} {v : Value} {d : DataW H} {p : List MemPlace} (ht : P.underlying t = some (.slice e)) (he : P.underlying e = some (.int k)) (hc : P.cellsOf e = 1)
    (hval : Value.okWide P W r b0 t v) (h : DataW.Trod enc P W base (fun _ => true) held t v d p) :
    ∃ (A : Option Addr) (c : Nat) (l : List Int), v = .slice A l.length c ∧ Kd.C (Kd.int k) W A l.length l ∧ l.length ≤ c ∧ ∀ x ∈ l, (Lit.int k x).wf = true := by
  obtain ⟨A0, len, cap, rfl⟩ := okWide_slice ht hval
  obtain ⟨fuel, hf⟩ := h
  rcases open_ints ht he hc hf with ⟨hcs, _⟩ | ⟨a, l, c, zs, hcs, _, hl, hm, hz, _, hcell, hwz⟩
  · simp [Value.cells] at hcs
    obtain ⟨rfl, rfl, rfl⟩ := hcs
    exact ⟨none, 0, [], rfl, Kd.C_nil _ _, Nat.le_refl _, fun x hx => by cases hx⟩
  · simp [Value.cells] at hcs
    obtain ⟨rfl, rfl, rfl⟩ := hcs
    have hz' : zs.length = cap := by simpa using hz
    have hlen : (zs.take len).length = len := by rw [List.length_take]; omega
    have hmax : maxLen = 9223372036854775807 := by decide
    refine ⟨some a, cap, zs.take len, by rw [hlen], Kd.C_of_reads (d := (0 : Int)) ⟨rfl, by omega, fun _ => ⟨a, rfl, fun j hj => ?_⟩⟩, by omega, fun x hx => hwz x (List.mem_of_mem_take hx)⟩
    have := hcell j (by omega)
    rw [this, List.getD_eq_getElem?_getD, List.getD_eq_getElem?_getD, List.getElem?_take, if_pos (by omega)]
end Go.Proofs.Ytnjocighalandaa.XRow
end
