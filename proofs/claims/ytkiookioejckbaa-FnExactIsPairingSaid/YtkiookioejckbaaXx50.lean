-- Written by a program of this work (wip/tools/xadd.py). Not trusted: it is checked when it is built.
import Derived.Test.YtkiookioejckbaaXx2
import Derived.Test.YtkiookioejckbaaXx4
import Derived.Test.YtkiookioejckbaaXx7
import Derived.Test.YtkiookioejckbaaXx10
import Derived.Test.YtkiookioejckbaaXx22
import Derived.Shelf.Bits.Mul64
import Derived.Test.YtkiookioejckbaaShelf
import Derived.Laws.MakeOwn
import Derived.Laws.IdiomCopy
import Derived.StillTailTactics
import Derived.Shelf.RegionOpenPlain
namespace Go.Proofs.Ytkiookioejckbaa.X
open Go.RowKit Go.Proofs.YtkiookioejckbaaW.PrintWords Go.Proofs.YtkiookioejckbaaW.PrintLast Go.Proofs.YtkiookioejckbaaW.PrintMore
attribute [local go_sem] max2_int min2_int max_two min_two max_three min_three max_four min_four   -- for this text's walks alone
set_option linter.unusedVariables false
set_option linter.unusedSimpArgs false

/-! ### bits_Mul: function 102 (given by hand) -/
def bits_Mul.f (a0 a1 : Int) : Option (Int × Int) := if (0 ≤ a0 ∧ a0 < 18446744073709551616) ∧ 0 ≤ a1 ∧ a1 < 18446744073709551616 then some (((a0.toNat * a1.toNat / 18446744073709551616 : Nat) : Int), ((a0.toNat * a1.toNat % 18446744073709551616 : Nat) : Int)) else none
theorem bits_Mul.calls (a0 a1 : Int) (r1 r2 : Int) (w : World) (h : bits_Mul.f a0 a1 = some (r1, r2)) :
    Calls Try.prog 102 #[.int .u64 a0, .int .u64 a1] w fun e w' => e = .returned (.tuple #[.int .u64 r1, .int .u64 r2]) ∧ Drawn0 w w' := by
  unfold bits_Mul.f at h
  by_cases hc : (0 ≤ a0 ∧ a0 < 18446744073709551616) ∧ 0 ≤ a1 ∧ a1 < 18446744073709551616
  · rw [if_pos hc] at h
    injection h with h
    injection h with e1 e2
    subst e1; subst e2
    have := Any.bits_Mul Try.laysMul a0.toNat a1.toNat (by omega) (by omega) w
    rw [Int.toNat_of_nonneg hc.1.1, Int.toNat_of_nonneg hc.2.1] at this
    exact this.mono fun e w' ⟨h1, h2⟩ => ⟨h1, h2 ▸ Drawn0.refl _⟩
  · rw [if_neg hc] at h
    cases h

/-! ### slices_Repeat_int_int: function 91 (given by hand) -/
/-- One number, so many times. -/
def slices_Repeat_int_int.f (l0 : List Int) (a1 : Int) : Option (List Int) := match l0 with
  | [x] => if 1 ≤ a1 ∧ a1 ≤ 1000 then some (List.replicate a1.toNat x) else none
  | _ => none
theorem below_cells {B g : Nat} {a : World} (hg : B ≤ g) : ∀ (vs : List Value) (o : Nat) (w : World), Below B a w → Below B a (w.setCells g o vs)
  | [], _, _, h => h
  | v :: vs, o, w, h => below_cells hg vs (o + 1) _ (h.setCell hg v)
theorem repeat_leave {w : World} {base g p : Nat} {cur : Array Value} {x : Int} (hb : w.heap[g]? = some (.cells cur 3 (0, 0))) (hbase : base ≤ g) (hp : p ≤ 1000) (hsz : cur.size = p) (hl : cur.toList = List.replicate p (.int .i64 x)) :
    Kd.R (Kd.int .i64) 3 w base (fun _ => True) (.slice (some ⟨g, 0, none⟩) p p) (List.replicate p x) := by
  have ht : cur.toList.take (p * 1) = cur.toList := List.take_of_length_le (by rw [Array.length_toList]; omega)
  refine ⟨fun _ _ => trivial, cur.toList.take (p * 1), ?_, ?_⟩
  · show w.ownsRow base 3 1 _ (List.replicate p x).length _
    rw [List.length_replicate]
    exact ⟨by rw [ht, Array.length_toList]; omega, .inr ⟨g, p, cur, rfl, hbase, hb, Nat.le_refl _, by unfold maxLen; omega, by omega, rfl⟩⟩
  · show Reps _ 1 (List.replicate p x) _
    rw [ht, hl]
    refine ⟨by simp, fun j q hj => ?_⟩
    have hjl : j < p := by have := (List.getElem?_eq_some_iff.1 hj).1; simpa using this
    have hq : q = x := by
      rw [List.getElem?_replicate, if_pos hjl] at hj
      exact (Option.some.inj hj).symm
    subst hq
    show (((List.replicate p (Value.int .i64 q)).drop (j * 1)).take 1) = [Value.int .i64 q]
    rw [Nat.mul_one, List.drop_replicate, List.take_replicate, Nat.min_eq_left (by omega)]
    rfl
set_option maxHeartbeats 1000000 in
set_option maxRecDepth 100000 in
theorem repeat_walk (ad : Addr) (c0 p : Nat) (x : Int) (w : World) (h1 : 1 ≤ p) (h2 : p ≤ 1000) (hx : w.cell? ad = some (.int .i64 x)) (had : ad.block < w.heap.size) :
    Calls Try.prog 91 #[.slice (some ad) 1 c0, .int .i64 p] w fun e w' => ∃ v0_ : Value, e = .returned v0_ ∧ Kd.R (Kd.int .i64) 3 w' w.heap.size (fun _ => True) v0_ (List.replicate p x) ∧ Below w.heap.size w w' := by
  have hmul : bits_Mul.f 1 (p : Int) = some (0, (p : Int)) := by
    unfold bits_Mul.f
    rw [if_pos ⟨by omega, by omega⟩]
    refine congrArg some (Prod.ext ?_ ?_)
    · show (((1 : Int).toNat * (p : Int).toNat / 18446744073709551616 : Nat) : Int) = 0
      rw [show (1 : Int).toNat = 1 from rfl, Int.toNat_natCast, Nat.one_mul, Nat.div_eq_of_lt (by omega)]
      rfl
    · show (((1 : Int).toNat * (p : Int).toNat % 18446744073709551616 : Nat) : Int) = (p : Int)
      rw [show (1 : Int).toNat = 1 from rfl, Int.toNat_natCast, Nat.one_mul, Nat.mod_eq_of_lt (by omega)]
  have HM := Aside0.mk (fun W => bits_Mul.calls 1 (p : Int) 0 (p : Int) W hmul)
  have HX := Aside0.mk hx
  have HA := Aside0.mk had
  clear hmul hx had
  have k1 : ¬ (p : Int) < 0 := by omega
  have k2 : ¬ (p : Int) > 9223372036854775807 := by omega
  go_enter Try.func91, Try.ntmps91
  go_wp2_with fail
  refine (HM.out _).mono ?_
  rintro e w1 ⟨rfl, hd1⟩
  have B1 := Aside0.mk hd1.below
  have HX1 := Aside0.mk (show w1.cell? ad = some (.int .i64 x) from (hd1.below.cell HA.out).trans HX.out)
  have HA1 := Aside0.mk (show ad.block < w1.heap.size from Nat.lt_of_lt_of_le HA.out hd1.below.size)
  clear hd1 HM HX
  obtain ⟨g, hg⟩ : ∃ g, w1.heap.size = g := ⟨_, rfl⟩
  obtain ⟨cs0, hcs0, hcl0⟩ : ∃ cs0 : Array Value, madeCells #[.int .i64 0] p = cs0 ∧ cs0.size = p := ⟨_, rfl, size_madeCells _ _⟩
  have hmk : (Instr.makeSlice 37 (.int .i64 (p : Int)) (.int .i64 (p : Int))).run Try.prog w1 = .ok (.slice (some ⟨g, 0, none⟩) p p) (w1.alloc (.cells cs0 3)) := by
    have hi : (Try.prog.info? 3).map (fun i => (i.zero, i.size, i.bytes)) = some (some (.int .i64 0), 1, 8) := by kernel_rfl
    obtain ⟨i0, hi0, hzz⟩ := Option.map_eq_some_iff.1 hi
    injection hzz with z1 z2
    injection z2 with z2 z3
    have h := run_makeSlice (P := Try.prog) w1 37 3 i0 (.int .i64 0) Try.underlying37 hi0 z1 .i64 .i64 (p : Int) (p : Int) (by omega) (by omega) (by rw [z2]; omega) (by rw [z3]; omega) (by omega)
    rw [z2, Int.toNat_natCast, Nat.mul_one] at h
    rw [← hg, ← hcs0]
    exact h
  have hne : ad.block ≠ g := by rw [← hg]; exact Nat.ne_of_lt HA1.out
  have hb0 : (w1.alloc (.cells cs0 3)).heap[g]? = some (.cells cs0 3 (0, 0)) := by rw [← hg]; exact (MapKept.heap_alloc w1 _).1
  have hx2 : (w1.alloc (.cells cs0 3)).cell? ad = some (.int .i64 x) := (World.cell?_alloc_lt _ _ _ HA1.out).trans HX1.out
  have hblk : ∀ (W : World) (cur : Array Value), W.heap[g]? = some (.cells cur 3 (0, 0)) → (∀ j, j < cur.size → (W.cell? ⟨g, j, none⟩).isSome = true) ∧ ∀ j, W.frozen? ⟨g, j, none⟩ = false := by
    intro W cur h
    refine ⟨fun j hj => ?_, fun j => ?_⟩
    · simp [World.cell?, h, hj]
    · simp [World.frozen?, h]
  have hcp : ∀ ty, (Builtin.copy_ #[37, 37] ty #[.slice (some ⟨g, 0, none⟩) p p, .slice (some ad) 1 c0]).run Try.prog (w1.alloc (.cells cs0 3)) = .ok (.int .i64 1) ((w1.alloc (.cells cs0 3)).setCells g 0 [.int .i64 x]) := by
    intro ty
    have hq := hblk _ cs0 hb0
    exact run_copy_cells (P := Try.prog) _ 37 37 ty 3 g 0 p p ad 1 c0 [.int .i64 x] Try.underlying37 (by kernel_rfl) (by show 1 = Nat.min 1 p; exact (Nat.min_eq_left h1).symm) (fun j v hj => by
      match j, hj with
      | 0, hj => simp at hj; subst hj; simpa [Addr.add] using hx2) (fun j hj => hq.1 _ (by simp at hj; omega)) (fun j _ => hq.2 _) (by intro v hv; simp at hv; subst hv; rfl)
  obtain ⟨W2, hW2⟩ : ∃ W2, W2 = (w1.alloc (.cells cs0 3)).setCells g 0 [.int .i64 x] := ⟨_, rfl⟩
  rw [← hW2] at hcp
  obtain ⟨cur1, e1, e2, e3⟩ := setCells_row [.int .i64 x] 0 (w1.alloc (.cells cs0 3)) cs0 hb0 (by simp; omega)
  rw [← hW2] at e1
  have R1 := Aside0.mk (show W2.heap[g]? = some (.cells cur1 3 (0, 0)) ∧ cur1.size = p ∧ ∃ rest, cur1.toList = List.replicate 1 (.int .i64 x) ++ rest from ⟨e1, by omega, cs0.toList.drop 1, by rw [e3]; simp⟩)
  have B2 := Aside0.mk (show Below w.heap.size w W2 from by
    rw [hW2]
    refine B1.out.trans (Below.mono ?_ B1.out.size)
    exact (Below.alloc (Below.refl _ _) (Nat.le_refl _) _).setCell (by rw [hg]; exact Nat.le_refl _) _)
  have HB := Aside0.mk hblk
  have HG := Aside0.mk (show w.heap.size ≤ g from by rw [← hg]; exact B1.out.size)
  clear e1 e2 e3 hW2 hblk hx2 hb0 hne hcs0 hcl0
  go_wp2_with fail
  go_loopg [8] p (fun gg s8 wr => ∃ (n : Nat) (cur : Array Value), 1 ≤ n ∧ n ≤ p ∧ p - n ≤ gg ∧ s8 = .int .i64 (n : Int) ∧ Aside0 (wr.heap[g]? = some (.cells cur 3 (0, 0)) ∧ cur.size = p ∧ ∃ rest, cur.toList = List.replicate n (.int .i64 x) ++ rest) ∧ Aside0 (Below w.heap.size w wr))
  case atStart => exact ⟨1, cur1, Nat.le_refl _, h1, by omega, rfl, R1, B2⟩
  case round =>
    obtain ⟨n, cur, hn1, hn2, hg2, rfl, HR, HBr⟩ := hrel
    by_cases hlt : n < p
    · have q0 : (n : Int) < (p : Int) := by omega
      have q1 : (0 : Int) ≤ (n : Int) := by omega
      have q2 : (n : Int) ≤ (p : Int) := by omega
      have q3 : ¬ p = n := by omega
      have q4 : n ≤ p := hn2
      obtain ⟨r1, r2, rest, r3⟩ := HR.out
      obtain ⟨m, hm⟩ : ∃ m, Nat.min n (p - n) = m := ⟨_, rfl⟩
      have hm1 : 1 ≤ m ∧ m ≤ n ∧ m ≤ p - n := by
        rw [← hm]
        show 1 ≤ min n (p - n) ∧ min n (p - n) ≤ n ∧ min n (p - n) ≤ p - n
        omega
      obtain ⟨W3, hW3⟩ : ∃ W3, W3 = wr.drew.setCells g n (List.replicate m (.int .i64 x)) := ⟨_, rfl⟩
      have hcp2 : ∀ ty, (Builtin.copy_ #[37, 37] ty #[.slice (some ⟨g, n, none⟩) (p - n) (p - n), .slice (some ⟨g, 0, none⟩) n p]).run Try.prog wr.drew = .ok (.int .i64 m) W3 := by
        intro ty
        have hq := HB.out wr.drew cur r1
        have h := run_copy_cells (P := Try.prog) wr.drew 37 37 ty 3 g n (p - n) (p - n) ⟨g, 0, none⟩ n p (List.replicate m (.int .i64 x)) Try.underlying37 (by kernel_rfl) (by rw [List.length_replicate]; exact hm.symm) (fun j v hj => by
          rw [List.getElem?_replicate] at hj
          split at hj
          · rename_i hjm
            obtain rfl := (Option.some.inj hj).symm
            rw [Addr.add_lit]
            have hc : cur[0 + j]? = some (Value.int .i64 x) := by
              rw [← Array.getElem?_toList, r3, Nat.zero_add, List.getElem?_append_left (by simp; omega), List.getElem?_replicate, if_pos (by omega)]
            show World.cell? wr ⟨g, 0 + j, none⟩ = _
            simp only [World.cell?, r1]
            simpa using hc
          · cases hj) (fun j hj => hq.1 _ (by simp at hj; omega)) (fun j _ => hq.2 _) (by intro v hv; rw [List.eq_of_mem_replicate hv]; rfl)
        rw [List.length_replicate, ← hW3] at h
        exact h
      obtain ⟨cur2, e1, e2, e3⟩ := setCells_row (List.replicate m (.int .i64 x)) n wr.drew cur r1 (by simp; omega)
      rw [← hW3] at e1
      have R2 := Aside0.mk (show W3.heap[g]? = some (.cells cur2 3 (0, 0)) ∧ cur2.size = p ∧ ∃ rest, cur2.toList = List.replicate (n + m) (.int .i64 x) ++ rest from ⟨e1, by omega, cur.toList.drop (n + m), by
        rw [e3, r3, List.length_replicate, List.take_left' (by simp), ← List.replicate_append_replicate]⟩)
      have B3 := Aside0.mk (show Below w.heap.size w W3 from by
        rw [hW3]
        exact below_cells HG.out _ _ _ HBr.out.drew)
      have hmix : Try.prog.follows Departure.mixedOrders = true := by kernel_rfl
      have mixed := hmix
      clear r1 r2 r3 e1 e2 e3 hW3 HR HBr
      go_wp2_with fail
      go_region_law_o (fail)
      have q5 := Aside0.mk (show IntKind.i64.wrap ((n : Int) + (m : Int)) = ((n + m : Nat) : Int) from by rw [IntKind.wrap_i64]; omega)
      go_wp2
      go_roundg (p - (n + m))
      (case measure => omega)
      (case rel => exact ⟨n + m, cur2, by omega, by omega, Nat.le_refl _, by rw [q5.out], R2, B3⟩)
    · have q0 : ¬ (n : Int) < (p : Int) := by omega
      go_wp2_with fail
      go_ret
      obtain rfl : n = p := by omega
      obtain ⟨r1, r2, rest, r3⟩ := HR.out
      have hl := congrArg List.length r3
      rw [Array.length_toList, List.length_append, List.length_replicate] at hl
      have hr : rest = [] := List.eq_nil_of_length_eq_zero (by omega)
      rw [hr, List.append_nil] at r3
      exact ⟨_, rfl, repeat_leave r1 HG.out h2 r2 r3, HBr.out⟩
theorem slices_Repeat_int_int.calls (A0 : Option Addr) (c0 : Nat) (l0 : List Int) (a1 : Int) (r : List Int) (w : World) (hr0 : Kd.C (Kd.int .i64) w A0 l0.length l0) (hc0 : l0.length ≤ c0) (h : slices_Repeat_int_int.f l0 a1 = some r) :
    Calls Try.prog 91 #[.slice A0 l0.length c0, .int .i64 a1] w fun e w' => ∃ v0_ : Value, e = .returned v0_ ∧ Kd.R (Kd.int .i64) 3 w' w.heap.size (fun _ => True) v0_ r ∧ Below w.heap.size w w' := by
  unfold slices_Repeat_int_int.f at h
  split at h
  · rename_i x
    split at h
    · rename_i hc
      obtain rfl := Option.some.inj h
      obtain ⟨ad, rfl, hcell0⟩ := Kd.at_int hr0 (0 : Int) (by decide) (by simp)
      obtain ⟨p, rfl⟩ : ∃ p : Nat, a1 = (p : Int) := ⟨a1.toNat, by omega⟩
      have hx : w.cell? ad = some (.int .i64 x) := by simpa [Addr.add, rd] using hcell0
      rw [Int.toNat_natCast]
      exact repeat_walk ad c0 p x w (by omega) (by omega) hx (World.block_lt_of_cell? w ad hx)
    · cases h
  · cases h

/-! ### impl_partners: function 68 (given by hand) -/
/-- Each chord joins its two points, if both are free. -/
def joinL : List S52 → List Int → Option (Option (List Int))
  | [], xs => some (some xs)
  | c :: l, xs => if (0 ≤ c.f0 ∧ c.f0 < xs.length) ∧ (0 ≤ c.f1 ∧ c.f1 < xs.length) then (if rd xs c.f0 ≥ 0 ∨ rd xs c.f1 ≥ 0 then some none else joinL l ((xs.set c.f0.toNat c.f1).set c.f1.toNat c.f0)) else none
def impl_partners.f (k : Nat) (a0 : Int) (l1 : List S52) : Option (List Int × Bool) := (slices_Repeat_int_int.f [-1] a0).bind fun out => (joinL l1 out).bind fun r => match r with
  | none => some ([], false)
  | some xs => (slices_Contains_int_int.f k xs (-1)).bind fun b => some (xs, !b)
theorem impl_partners.mono : ∀ a0 a1 k, LeO (impl_partners.f k a0 a1) (impl_partners.f (k + 1) a0 a1) := by
  intro a0 a1 k
  unfold impl_partners.f
  refine LeO.bind (LeO.refl _) (fun out => LeO.bind (LeO.refl _) (fun r => ?_))
  cases r with
  | none => exact LeO.refl _
  | some xs => exact LeO.bind (slices_Contains_int_int.mono _ _ _) (fun _ => LeO.refl _)
set_option maxHeartbeats 1000000 in
set_option maxRecDepth 100000 in
theorem partners_walk (k : Nat) (a0 : Int) (A1 : Option Addr) (c1 : Nat) (l1 : List S52) (out : List Int) (r1 : List Int) (r2 : Bool) (w : World) (hr1 : Kd.C k52 w A1 l1.length l1) (hc1 : l1.length ≤ c1)
    (HR : Aside0 (slices_Repeat_int_int.f [-1] a0 = some out)) (HJ : Aside0 ((joinL l1 out).bind (fun r => match r with
  | none => some ([], false)
  | some xs => (slices_Contains_int_int.f k xs (-1)).bind fun b => some (xs, !b)) = some (r1, r2))) :
    Calls Try.prog 68 #[.int .i64 a0, .slice A1 l1.length c1] w fun e w' => ∃ v0_ : Value, e = .returned (.tuple #[v0_, .bool r2]) ∧ Kd.R (Kd.int .i64) 3 w' w.heap.size (fun _ => True) v0_ r1 ∧ Below w.heap.size w w' := by
  have HC := Aside0.mk hr1
  clear hr1
  go_enter Try.func68, Try.ntmps68
  have hrep := slices_Repeat_int_int.calls (some ⟨w.heap.size, 0, none⟩) 1 [-1] a0 out (w.alloc (.cells #[.int .i64 (-1)] 3)) (by
    refine ⟨rfl, by simp, fun _ => ⟨⟨w.heap.size, 0, none⟩, rfl, fun j p hj => ?_⟩⟩
    match j, hj with
    | 0, hj =>
      simp at hj
      subst hj
      exact ⟨[.int .i64 (-1)], rfl, rfl, fun i u hu => by
        match i, hu with
        | 0, hu => simp at hu; subst hu; simp [Addr.add]⟩) (by simp) HR.out
  have HREP := Aside0.mk hrep
  clear hrep
  go_wp2_with fail
  refine HREP.out.mono ?_
  rintro e w1 ⟨v, rfl, hR, hB⟩
  have B1 := Aside0.mk (below_step (below_alloc (Below.refl w.heap.size w) _) hB)
  have R1 := Aside0.mk (Kd.R_lower hR (show w.heap.size ≤ _ by simp))
  clear hR hB HREP
  have hout : out.length = a0.toNat ∧ 1 ≤ a0 := by
    have h := HR.out
    unfold slices_Repeat_int_int.f at h
    simp only at h
    split at h
    · rename_i hc
      obtain rfl := Option.some.inj h
      exact ⟨by simp, hc.1⟩
    · cases h
  obtain ⟨g, cap, rfl, hbg, hgl, _⟩ := Kd.R_form R1.out (by omega)
  have HOUT := Aside0.mk hout
  clear hout
  go_wp2_with fail
  go_loopg [14] l1.length (fun gg s14 wr => ∃ (i : Nat) (xs : List Int), i ≤ l1.length ∧ l1.length - i ≤ gg ∧ s14 = .int .i64 (i : Int) ∧ xs.length = out.length ∧
    Aside0 (Kd.R (Kd.int .i64) 3 wr w.heap.size (fun _ => True) (.slice (some ⟨g, 0, none⟩) out.length cap) xs) ∧ Aside0 (Below w.heap.size w wr) ∧ Aside0 (joinL (l1.drop i) xs = joinL l1 out))
  case atStart => exact ⟨0, out, Nat.zero_le _, by omega, rfl, rfl, R1, B1, ⟨by rw [List.drop_zero]⟩⟩
  case round =>
    obtain ⟨i, xs, hi, hg2, rfl, hxl, HRr, HBr, HJr⟩ := hrel
    by_cases hlt : i < l1.length
    · have q0 : (i : Int) < (l1.length : Int) := by omega
      obtain ⟨ad, hA, m0, m1⟩ := at_T52 HC.out (i : Int) (by omega) q0
      cases hA
      replace m0 := (HBr.out.cell (World.block_lt_of_cell? w _ m0)).trans m0
      replace m1 := (HBr.out.cell (World.block_lt_of_cell? w _ m1)).trans m1
      obtain ⟨cc, hce⟩ : ∃ cc, l1[i] = cc := ⟨_, rfl⟩
      have hget : rd_T52 l1 (i : Int) = cc := by
        rw [← hce]
        show l1.getD (i : Int).toNat _ = _
        rw [Int.toNat_natCast, List.getD_eq_getElem?_getD, List.getElem?_eq_getElem hlt]; rfl
      rw [hget, Int.toNat_natCast] at m0 m1
      have hdrop : l1.drop i = l1[i] :: l1.drop (i + 1) := List.drop_eq_getElem_cons hlt
      rw [hce] at hdrop
      obtain ⟨f0, f1⟩ := cc
      have hJ := HJr.out
      rw [hdrop] at hJ
      have hJ2 := HJ.out
      rw [← hJ] at hJ2
      simp only [joinL] at hJ hJ2
      by_cases hin : (0 ≤ f0 ∧ f0 < xs.length) ∧ (0 ≤ f1 ∧ f1 < xs.length)
      · rw [if_pos hin] at hJ hJ2
        obtain ⟨v0, hv0⟩ : ∃ v, v = rd xs f0 := ⟨_, rfl⟩
        obtain ⟨v1, hv1⟩ : ∃ v, v = rd xs f1 := ⟨_, rfl⟩
        rw [← hv0, ← hv1] at hJ hJ2
        have HV0 := Aside0.mk hv0
        have HV1 := Aside0.mk hv1
        clear hv0 hv1
        have HJa := Aside0.mk hJ
        have HJb := Aside0.mk hJ2
        clear hJ hJ2 hget hdrop hce HJr
        have hin1 : f0 < (out.length : Int) := by omega
        have hin2 : f1 < (out.length : Int) := by omega
        have hx1 := eq_true hin.1.1
        have hx2 := eq_true hin1
        have hx3 := eq_true hin.2.1
        have hx4 := eq_true hin2
        have HIN := Aside0.mk hin
        have HIN1 := Aside0.mk (And.intro hin1 hin2)
        clear hin hin1 hin2
        by_cases hv0 : 0 ≤ v0
        · have e0 := Aside0.mk HJb.out
          rw [if_pos (show v0 ≥ 0 ∨ v1 ≥ 0 from .inl hv0)] at HJb
          have hv0b := eq_true hv0
          clear hv0 e0
          go_wp2_with (first | ((with_reducible refine gate_dst (N := 8) rfl ?_); refine box_event ?hg (N := 8) ?hd (cs := #[.int .i64 0, .int .i64 0]) (t := 52) ?hr ?_; (case hd => rfl); (case hg => rfl); (case hr => first | (go_simp; done) | (go_simp; rfl)); intro gb hg w16 hbox hb; have HGB := Aside0.mk hg; clear hg; have hcz17_0 : w16.cell? ⟨gb, 0, none⟩ = some (.int .i64 0) := (blk_cell hbox 0).trans rfl; have hcz17_1 : w16.cell? ⟨gb, 1, none⟩ = some (.int .i64 0) := (blk_cell hbox 1).trans rfl; have hfz17_0 := blk_frozen hbox 0; have hfz17_1 := blk_frozen hbox 1; have HBOX := Aside0.mk hbox; have HBB := Aside0.mk hb; clear hbox hb) | ((with_reducible refine gate_store (t := 52) (p := 8) rfl ?_); refine store_event (t := 52) (p := 8) (v := ?vo_w18) (w1 := ((w16.setCell ⟨gb, 0, none⟩ (.int .i64 f0)).setCell ⟨gb, 1, none⟩ (.int .i64 f1))) ?hg ?ho ?hn ?hr ?_; (case ho => rfl); (case hg => rfl); (case hn => rfl); (case hr => first | (go_simp; done) | (go_simp; rfl)); intro w18 hw; clear hcz17_0 hcz17_1 hfz17_0 hfz17_1; have R18 : Kd.R (Kd.int .i64) 3 w18 w.heap.size (fun _ => True) (.slice (some ⟨g, 0, none⟩) out.length cap) xs := (by rw [hw]; exact Kd.R_mono (Kd.R_far (p := ⟨gb, 1, none⟩) (Kd.R_far (p := ⟨gb, 0, none⟩) (Kd.R_types (Kd.R_below HRr.out HBB.out) HBOX.out (by decide)) (fun _ hk => hk.2) (.int .i64 f0)) (fun _ hk => hk.2) (.int .i64 f1)) (fun _ hk => trivial)); have X18 : w18.heap[gb]? = some (.cells #[.int .i64 f0, .int .i64 f1] 52 (0, 0)) := (by rw [hw]; refine blk_put (cs := #[.int .i64 f0, .int .i64 0]) ?_ 1 _ rfl; refine blk_put (cs := #[.int .i64 0, .int .i64 0]) ?_ 0 _ rfl; exact HBOX.out); have hwb := below_size HBr.out; have B18 : Below w.heap.size w w18 := (by rw [hw]; exact below_set (below_set (below_step HBr.out HBB.out) (by rw [HGB.out]; exact hwb) ) (by rw [HGB.out]; exact hwb)); clear hw HBOX HBB HGB hwb; have gz0 := (Kd.R_celln 0 R18 f0 HIN.out.1.1 HIN1.out.1).2; have gz1 := (Kd.R_celln 0 R18 f1 HIN.out.2.1 HIN1.out.2).2; have gc0 : w18.cell? ⟨g, f0.toNat, none⟩ = some (.int .i64 v0) := (by rw [HV0.out]; exact (Kd.R_celln 0 R18 f0 HIN.out.1.1 HIN1.out.1).1); have gc1 : w18.cell? ⟨g, f1.toNat, none⟩ = some (.int .i64 v1) := (by rw [HV1.out]; exact (Kd.R_celln 0 R18 f1 HIN.out.2.1 HIN1.out.2).1); have bc0 : w18.cell? ⟨gb, 0, none⟩ = some (.int .i64 f0) := (blk_cell X18 0).trans rfl; have bc1 : w18.cell? ⟨gb, 1, none⟩ = some (.int .i64 f1) := (blk_cell X18 1).trans rfl; have hgg : g ≠ gb := (by have h := Kd.R_ne R18 X18 (by decide); intro h2; subst h2; exact h rfl); have XX := Aside0.mk X18; have RR := Aside0.mk R18; have BB := Aside0.mk B18; clear X18 R18 B18))
          have hJ := HJb.out
          rw [Option.bind_some] at hJ
          injection hJ with hJ
          injection hJ with e1 e2
          subst e1; subst e2
          go_ret2
          exact ⟨_, rfl, Kd.R_nil _ _ _ _ _, BB.out⟩
        · by_cases hv1 : 0 ≤ v1
          · rw [if_pos (show v0 ≥ 0 ∨ v1 ≥ 0 from .inr hv1)] at HJb
            have hv0b := eq_false hv0
            have hv1b := eq_true hv1
            clear hv0 hv1
            go_wp2_with (first | ((with_reducible refine gate_dst (N := 8) rfl ?_); refine box_event ?hg (N := 8) ?hd (cs := #[.int .i64 0, .int .i64 0]) (t := 52) ?hr ?_; (case hd => rfl); (case hg => rfl); (case hr => first | (go_simp; done) | (go_simp; rfl)); intro gb hg w16 hbox hb; have HGB := Aside0.mk hg; clear hg; have hcz17_0 : w16.cell? ⟨gb, 0, none⟩ = some (.int .i64 0) := (blk_cell hbox 0).trans rfl; have hcz17_1 : w16.cell? ⟨gb, 1, none⟩ = some (.int .i64 0) := (blk_cell hbox 1).trans rfl; have hfz17_0 := blk_frozen hbox 0; have hfz17_1 := blk_frozen hbox 1; have HBOX := Aside0.mk hbox; have HBB := Aside0.mk hb; clear hbox hb) | ((with_reducible refine gate_store (t := 52) (p := 8) rfl ?_); refine store_event (t := 52) (p := 8) (v := ?vo_w18) (w1 := ((w16.setCell ⟨gb, 0, none⟩ (.int .i64 f0)).setCell ⟨gb, 1, none⟩ (.int .i64 f1))) ?hg ?ho ?hn ?hr ?_; (case ho => rfl); (case hg => rfl); (case hn => rfl); (case hr => first | (go_simp; done) | (go_simp; rfl)); intro w18 hw; clear hcz17_0 hcz17_1 hfz17_0 hfz17_1; have R18 : Kd.R (Kd.int .i64) 3 w18 w.heap.size (fun _ => True) (.slice (some ⟨g, 0, none⟩) out.length cap) xs := (by rw [hw]; exact Kd.R_mono (Kd.R_far (p := ⟨gb, 1, none⟩) (Kd.R_far (p := ⟨gb, 0, none⟩) (Kd.R_types (Kd.R_below HRr.out HBB.out) HBOX.out (by decide)) (fun _ hk => hk.2) (.int .i64 f0)) (fun _ hk => hk.2) (.int .i64 f1)) (fun _ hk => trivial)); have X18 : w18.heap[gb]? = some (.cells #[.int .i64 f0, .int .i64 f1] 52 (0, 0)) := (by rw [hw]; refine blk_put (cs := #[.int .i64 f0, .int .i64 0]) ?_ 1 _ rfl; refine blk_put (cs := #[.int .i64 0, .int .i64 0]) ?_ 0 _ rfl; exact HBOX.out); have hwb := below_size HBr.out; have B18 : Below w.heap.size w w18 := (by rw [hw]; exact below_set (below_set (below_step HBr.out HBB.out) (by rw [HGB.out]; exact hwb) ) (by rw [HGB.out]; exact hwb)); clear hw HBOX HBB HGB hwb; have gz0 := (Kd.R_celln 0 R18 f0 HIN.out.1.1 HIN1.out.1).2; have gz1 := (Kd.R_celln 0 R18 f1 HIN.out.2.1 HIN1.out.2).2; have gc0 : w18.cell? ⟨g, f0.toNat, none⟩ = some (.int .i64 v0) := (by rw [HV0.out]; exact (Kd.R_celln 0 R18 f0 HIN.out.1.1 HIN1.out.1).1); have gc1 : w18.cell? ⟨g, f1.toNat, none⟩ = some (.int .i64 v1) := (by rw [HV1.out]; exact (Kd.R_celln 0 R18 f1 HIN.out.2.1 HIN1.out.2).1); have bc0 : w18.cell? ⟨gb, 0, none⟩ = some (.int .i64 f0) := (blk_cell X18 0).trans rfl; have bc1 : w18.cell? ⟨gb, 1, none⟩ = some (.int .i64 f1) := (blk_cell X18 1).trans rfl; have hgg : g ≠ gb := (by have h := Kd.R_ne R18 X18 (by decide); intro h2; subst h2; exact h rfl); have XX := Aside0.mk X18; have RR := Aside0.mk R18; have BB := Aside0.mk B18; clear X18 R18 B18))
            have hJ := HJb.out
            rw [Option.bind_some] at hJ
            injection hJ with hJ
            injection hJ with e1 e2
            subst e1; subst e2
            go_ret2
            exact ⟨_, rfl, Kd.R_nil _ _ _ _ _, BB.out⟩
          · rw [if_neg (show ¬ (v0 ≥ 0 ∨ v1 ≥ 0) from fun h => h.elim hv0 hv1)] at HJa HJb
            have hv0b := eq_false hv0
            have hv1b := eq_false hv1
            clear hv0 hv1
            go_wp2_with (first | ((with_reducible refine gate_dst (N := 8) rfl ?_); refine box_event ?hg (N := 8) ?hd (cs := #[.int .i64 0, .int .i64 0]) (t := 52) ?hr ?_; (case hd => rfl); (case hg => rfl); (case hr => first | (go_simp; done) | (go_simp; rfl)); intro gb hg w16 hbox hb; have HGB := Aside0.mk hg; clear hg; have hcz17_0 : w16.cell? ⟨gb, 0, none⟩ = some (.int .i64 0) := (blk_cell hbox 0).trans rfl; have hcz17_1 : w16.cell? ⟨gb, 1, none⟩ = some (.int .i64 0) := (blk_cell hbox 1).trans rfl; have hfz17_0 := blk_frozen hbox 0; have hfz17_1 := blk_frozen hbox 1; have HBOX := Aside0.mk hbox; have HBB := Aside0.mk hb; clear hbox hb) | ((with_reducible refine gate_store (t := 52) (p := 8) rfl ?_); refine store_event (t := 52) (p := 8) (v := ?vo_w18) (w1 := ((w16.setCell ⟨gb, 0, none⟩ (.int .i64 f0)).setCell ⟨gb, 1, none⟩ (.int .i64 f1))) ?hg ?ho ?hn ?hr ?_; (case ho => rfl); (case hg => rfl); (case hn => rfl); (case hr => first | (go_simp; done) | (go_simp; rfl)); intro w18 hw; clear hcz17_0 hcz17_1 hfz17_0 hfz17_1; have R18 : Kd.R (Kd.int .i64) 3 w18 w.heap.size (fun _ => True) (.slice (some ⟨g, 0, none⟩) out.length cap) xs := (by rw [hw]; exact Kd.R_mono (Kd.R_far (p := ⟨gb, 1, none⟩) (Kd.R_far (p := ⟨gb, 0, none⟩) (Kd.R_types (Kd.R_below HRr.out HBB.out) HBOX.out (by decide)) (fun _ hk => hk.2) (.int .i64 f0)) (fun _ hk => hk.2) (.int .i64 f1)) (fun _ hk => trivial)); have X18 : w18.heap[gb]? = some (.cells #[.int .i64 f0, .int .i64 f1] 52 (0, 0)) := (by rw [hw]; refine blk_put (cs := #[.int .i64 f0, .int .i64 0]) ?_ 1 _ rfl; refine blk_put (cs := #[.int .i64 0, .int .i64 0]) ?_ 0 _ rfl; exact HBOX.out); have hwb := below_size HBr.out; have B18 : Below w.heap.size w w18 := (by rw [hw]; exact below_set (below_set (below_step HBr.out HBB.out) (by rw [HGB.out]; exact hwb) ) (by rw [HGB.out]; exact hwb)); clear hw HBOX HBB HGB hwb; have gz0 := (Kd.R_celln 0 R18 f0 HIN.out.1.1 HIN1.out.1).2; have gz1 := (Kd.R_celln 0 R18 f1 HIN.out.2.1 HIN1.out.2).2; have gc0 : w18.cell? ⟨g, f0.toNat, none⟩ = some (.int .i64 v0) := (by rw [HV0.out]; exact (Kd.R_celln 0 R18 f0 HIN.out.1.1 HIN1.out.1).1); have gc1 : w18.cell? ⟨g, f1.toNat, none⟩ = some (.int .i64 v1) := (by rw [HV1.out]; exact (Kd.R_celln 0 R18 f1 HIN.out.2.1 HIN1.out.2).1); have bc0 : w18.cell? ⟨gb, 0, none⟩ = some (.int .i64 f0) := (blk_cell X18 0).trans rfl; have bc1 : w18.cell? ⟨gb, 1, none⟩ = some (.int .i64 f1) := (blk_cell X18 1).trans rfl; have hgg : g ≠ gb := (by have h := Kd.R_ne R18 X18 (by decide); intro h2; subst h2; exact h rfl); have XX := Aside0.mk X18; have RR := Aside0.mk R18; have BB := Aside0.mk B18; clear X18 R18 B18))
            have hmix : Try.prog.follows Departure.mixedOrders = true := by kernel_rfl
            have mixed := hmix
            have RP := Kd.R_putn RR.out f0 f1
            obtain ⟨u2, hu2⟩ : ∃ u, u = rd (xs.set f0.toNat f1) f1 := ⟨_, rfl⟩
            have gc2 : (w18.setCell ⟨g, f0.toNat, none⟩ (.int .i64 f1)).cell? ⟨g, f1.toNat, none⟩ = some (.int .i64 u2) := by rw [hu2]; exact (Kd.R_celln 0 RP f1 HIN.out.2.1 HIN1.out.2).1
            have gz2 := (Kd.R_celln 0 RP f1 HIN.out.2.1 HIN1.out.2).2
            have RQ := Aside0.mk (Kd.R_drew (Kd.R_putn RP f1 f0))
            have BQ := Aside0.mk (Below.drew (below_set (below_set BB.out hbg) hbg) : Below w.heap.size w ((w18.setCell ⟨g, f0.toNat, none⟩ (.int .i64 f1)).setCell ⟨g, f1.toNat, none⟩ (.int .i64 f0)).drew)
            clear RP hu2
            go_region_o
            have q5 := Aside0.mk (show wrap64 ((i : Int) + 1) = ((i + 1 : Nat) : Int) from by have := Kd.C_max HC.out; unfold wrap64; omega)
            go_wp2
            go_roundg (l1.length - (i + 1))
            (case measure => omega)
            (case rel => exact ⟨i + 1, _, by omega, Nat.le_refl _, by rw [q5.out], by rw [List.length_set, List.length_set]; exact hxl, RQ, BQ, HJa⟩)
      · rw [if_neg hin] at hJ2
        exact absurd hJ2 (by simp)
    · have q0 : ¬ (i : Int) < (l1.length : Int) := by omega
      obtain rfl : i = l1.length := by omega
      have hJ := HJr.out
      rw [List.drop_length] at hJ
      have hJ2 := HJ.out
      rw [← hJ] at hJ2
      obtain ⟨b, hb, hJ3⟩ := Option.bind_eq_some_iff.mp (show (slices_Contains_int_int.f k xs (-1)).bind (fun b => some (xs, !b)) = some (r1, r2) from hJ2)
      injection hJ3 with hJ3
      injection hJ3 with e1 e2
      subst e1; subst e2
      obtain ⟨_, hlc, hCx⟩ := Kd.R_reads' HRr.out
      rw [show out.length = xs.length from hxl.symm] at *
      have hcon := slices_Contains_int_int.calls k (some ⟨g, 0, none⟩) cap xs (-1) b wr (by simpa [hxl] using hCx) (by simpa [hxl] using hlc) hb
      have HCON := Aside0.mk hcon
      have HRZ := Aside0.mk (show Kd.R (Kd.int .i64) 3 wr w.heap.size (fun _ => True) (.slice (some ⟨g, 0, none⟩) xs.length cap) xs from by simpa [hxl] using HRr.out)
      clear hcon hCx hlc
      go_wp2_with fail
      refine HCON.out.mono ?_
      rintro e w2 ⟨rfl, hd⟩
      have RZ := Aside0.mk (Kd.R_below HRZ.out hd.below)
      have BZ := Aside0.mk (below_step HBr.out hd.below)
      clear hd
      go_wp2_with fail
      go_ret2
      exact ⟨_, rfl, RZ.out, BZ.out⟩
theorem impl_partners.calls (k : Nat) (a0 : Int) (A1 : Option Addr) (c1 : Nat) (l1 : List S52) (r1 : List Int) (r2 : Bool) (w : World) (hr1 : Kd.C k52 w A1 l1.length l1) (hc1 : l1.length ≤ c1) (h : impl_partners.f k a0 l1 = some (r1, r2)) :
    Calls Try.prog 68 #[.int .i64 a0, .slice A1 l1.length c1] w fun e w' => ∃ v0_ : Value, e = .returned (.tuple #[v0_, .bool r2]) ∧ Kd.R (Kd.int .i64) 3 w' w.heap.size (fun _ => True) v0_ r1 ∧ Below w.heap.size w w' := by
  unfold impl_partners.f at h
  obtain ⟨out, ho, hj⟩ := Option.bind_eq_some_iff.mp h
  exact partners_walk k a0 A1 c1 l1 out r1 r2 w hr1 hc1 ⟨ho⟩ ⟨hj⟩

/-! ### impl_IsPairing: function 36 -/
def impl_IsPairing.f (k : Nat) (a0 : Int) (l1 : List (S52)) : Option (Bool × Bool) := (impl_isSet.f k a0 l1).bind fun t398 => (if t398 = true then ((impl_partners.f k a0 l1).bind fun bt399 => (some (bt399.2, true))) else (some (false, false)))
theorem impl_IsPairing.mono : ∀ a0 a1 k, LeO (impl_IsPairing.f k a0 a1) (impl_IsPairing.f (k + 1) a0 a1) := by
  intro a0 a1 k
  unfold impl_IsPairing.f
  repeat' first
      | (with_reducible exact impl_isSet.mono _ _ _)
      | (with_reducible exact impl_partners.mono _ _ _)
      | (with_reducible exact LeO.refl _)
      | (with_reducible exact LeO.none _)
      | (with_reducible refine LeO.ite ?_ ?_)
      | (with_reducible refine LeO.bind ?_ (fun _ => ?_))
      | exact impl_isSet.mono _ _ _
      | exact impl_partners.mono _ _ _
      | exact LeO.none _
      | refine LeO.ite ?_ ?_
      | refine LeO.bind ?_ (fun _ => ?_)
set_option maxHeartbeats 8000000 in
set_option maxRecDepth 100000 in
theorem impl_IsPairing.calls (k : Nat) (a0 : Int) (A1 : Option Addr) (c1 : Nat) (l1 : List (S52)) (r1 : Bool) (r2 : Bool) (w : World) (hr1 : Kd.C k52 w A1 l1.length l1) (hc1 : l1.length ≤ c1) (h : impl_IsPairing.f k a0 l1 = some (r1, r2)) :
    Calls Try.prog 36 #[.int .i64 a0, .slice A1 l1.length c1] w fun e w' => e = .returned (.tuple #[.bool r1, .bool r2]) ∧ Below w.heap.size w w' := by
  have HR1 := Aside0.mk hr1
  have HC1 := Aside0.mk hc1
  clear hr1 hc1
  have HB := Aside0.mk (Below.refl w.heap.size w)
  have H : ((impl_isSet.f k a0 l1).bind fun t398 => (if t398 = true then ((impl_partners.f k a0 l1).bind fun bt399 => (some (bt399.2, true))) else (some (false, false)))) = some (r1, r2) := h
  clear h
  replace H := Option.bind_eq_some_iff.mp H
  obtain ⟨t398, A30, H⟩ := H
  replace H : (if t398 = true then ((impl_partners.f k a0 l1).bind fun bt399 => (some (bt399.2, true))) else (some (false, false))) = some (r1, r2) := H
  have A3 := Aside0.mk A30
  clear A30
  by_cases c4 : t398 = true
  · subst c4
    have H1 : ((impl_partners.f k a0 l1).bind fun bt399 => (some (bt399.2, true))) = some (r1, r2) := by rw [if_pos rfl] at H; exact H
    clear H
    have H := H1
    clear H1
    replace H := Option.bind_eq_some_iff.mp H
    obtain ⟨⟨t399, t400⟩, A50, H⟩ := H
    replace H : (some (t400, true)) = some (r1, r2) := H
    have A5 := Aside0.mk A50
    clear A50
    simp only [Option.some.injEq, Prod.mk.injEq] at H
    obtain ⟨rfl, rfl⟩ := H
    go_enter Try.func36, Try.ntmps36
    go_wp2_with (first | ((with_reducible refine gate_callee (f := 57) rfl ?_); refine goesL_ (some 10) rfl rfl Try.func57 (by kernel_rfl) rfl #[.int .i64 a0, .slice A1 l1.length c1] rfl (by (try simp only [List.map_toArray, List.map_cons, List.map_nil]); first | done | rfl | (simp only [List.length_drop, List.length_take]; rfl)) ?_; (with_reducible refine (impl_isSet.calls k a0 _ _ l1 true _ ?side1 ?side2 A3.out).mono ?_); (case side1 => repeat (first | exact HR1.out | (with_reducible refine Kd.C_alloc ?_ _) | (with_reducible refine Kd.C_drewN ?_ _) | (with_reducible refine Kd.C_drew ?_))); (case side2 => exact HC1.out); rintro e w6 ⟨rfl, hb⟩; refine ⟨_, rfl, ?_⟩; have n0_ := Aside0.mk (below_step (by repeat (first | (with_reducible first | exact HB.out | apply below_alloc | apply pw_below_drewN | apply below_drew1) | exact HB.out)) hb); clear HB; have HB := n0_; clear n0_; (try clear hb); (try clear hb2); (try clear hk); (try clear hi)) | ((with_reducible refine gate_callee (f := 68) rfl ?_); refine goesL_ (some 15) rfl rfl Try.func68 (by kernel_rfl) rfl #[.int .i64 a0, .slice A1 l1.length c1] rfl (by (try simp only [List.map_toArray, List.map_cons, List.map_nil]); first | done | rfl | (simp only [List.length_drop, List.length_take]; rfl)) ?_; (with_reducible refine (impl_partners.calls k a0 _ _ l1 t399 t400 _ ?side1 ?side2 A5.out).mono ?_); (case side1 => repeat (first | exact (Kd.C_below HR1.out HB.out) | (with_reducible refine Kd.C_alloc ?_ _) | (with_reducible refine Kd.C_drewN ?_ _) | (with_reducible refine Kd.C_drew ?_))); (case side2 => exact HC1.out); rintro e w7 ⟨v401, rfl, ho0, hb⟩; refine ⟨_, rfl, ?_⟩; have n0_ := Aside0.mk (Kd.R_lower ho0 (below_size (by repeat (first | (with_reducible first | exact HB.out | apply below_alloc | apply pw_below_drewN | apply below_drew1) | exact HB.out)))); have n1_ := Aside0.mk (below_step (by repeat (first | (with_reducible first | exact HB.out | apply below_alloc | apply pw_below_drewN | apply below_drew1) | exact HB.out)) hb); clear HB; have HO402 := n0_; have HB := n1_; clear n0_ n1_; (try clear hb); (try clear hb2); (try clear hk); (try clear hi); (try clear ho0)))
    go_ret2
    exact ⟨by first | rfl | (simp [errW_none, errW_some] <;> rfl) | (simp [*, errW_none, errW_some] <;> rfl), by repeat (first | (with_reducible first | exact HB.out | apply below_alloc | apply pw_below_drewN | apply below_drew1) | exact HB.out)⟩
  · replace c4 := Bool.eq_false_iff.mpr c4
    subst c4
    have H1 : (some (false, false)) = some (r1, r2) := by rw [if_neg (show ¬ (false = true) by decide)] at H; exact H
    clear H
    have H := H1
    clear H1
    simp only [Option.some.injEq, Prod.mk.injEq] at H
    obtain ⟨rfl, rfl⟩ := H
    go_enter Try.func36, Try.ntmps36
    go_wp2_with (first | ((with_reducible refine gate_callee (f := 57) rfl ?_); refine goesL_ (some 10) rfl rfl Try.func57 (by kernel_rfl) rfl #[.int .i64 a0, .slice A1 l1.length c1] rfl (by (try simp only [List.map_toArray, List.map_cons, List.map_nil]); first | done | rfl | (simp only [List.length_drop, List.length_take]; rfl)) ?_; (with_reducible refine (impl_isSet.calls k a0 _ _ l1 false _ ?side1 ?side2 A3.out).mono ?_); (case side1 => repeat (first | exact HR1.out | (with_reducible refine Kd.C_alloc ?_ _) | (with_reducible refine Kd.C_drewN ?_ _) | (with_reducible refine Kd.C_drew ?_))); (case side2 => exact HC1.out); rintro e w8 ⟨rfl, hb⟩; refine ⟨_, rfl, ?_⟩; have n0_ := Aside0.mk (below_step (by repeat (first | (with_reducible first | exact HB.out | apply below_alloc | apply pw_below_drewN | apply below_drew1) | exact HB.out)) hb); clear HB; have HB := n0_; clear n0_; (try clear hb); (try clear hb2); (try clear hk); (try clear hi)))
    go_ret2
    exact ⟨by first | rfl | (simp [errW_none, errW_some] <;> rfl) | (simp [*, errW_none, errW_some] <;> rfl), by repeat (first | (with_reducible first | exact HB.out | apply below_alloc | apply pw_below_drewN | apply below_drew1) | exact HB.out)⟩

/-! ### laws_FnExactIsPairing: function 9 -/
def laws_FnExactIsPairing.j0 : Nat → List (S50) → List (S52) → Bool → Option (Bool)
  | 0, _, _, _ => none
  | k + 1, x1, x8, x38 => if x38 = true then (some false) else ((laws_toChordS.f k x1).bind fun t414 => ((laws_eqChordS.f k x8 t414).bind fun t417 => (if t417 = true then (some true) else (some false))))
def laws_FnExactIsPairing.f (k : Nat) (a0 : Int) (l1 : List (S50)) : Option (Bool) := (laws_szChordS.f l1 1048576).bind fun t403 => (if t403 < 0 then (some true) else ((laws_toChordS.f k l1).bind fun t404 => ((spec_IsPairing.f k a0 t404).bind fun bt407 => ((laws_toChordS.f k l1).bind fun t409 => ((impl_IsPairing.f k a0 t409).bind fun bt412 => (if (bt412.1 != bt407.1) = true then (laws_FnExactIsPairing.j0 k l1 t409 true) else (laws_FnExactIsPairing.j0 k l1 t409 (bt412.2 != bt407.2))))))))
theorem laws_FnExactIsPairing.mono_l : ∀ k, (∀ y0 y1 y2, LeO (laws_FnExactIsPairing.j0 k y0 y1 y2) (laws_FnExactIsPairing.j0 (k + 1) y0 y1 y2))
  | 0 => fun _ _ _ r h => by simp [laws_FnExactIsPairing.j0] at h
  | k + 1 => by
    have ih0 := laws_FnExactIsPairing.mono_l k
    · intro y0 y1 y2
      unfold laws_FnExactIsPairing.j0
      repeat' first
      | (with_reducible exact ih0 _ _ _)
      | (with_reducible exact impl_IsPairing.mono _ _ _)
      | (with_reducible exact laws_eqChordS.mono _ _ _)
      | (with_reducible exact laws_toChordS.mono _ _)
      | (with_reducible exact spec_IsPairing.mono _ _ _)
      | (with_reducible exact LeO.refl _)
      | (with_reducible exact LeO.none _)
      | (with_reducible refine LeO.ite ?_ ?_)
      | (with_reducible refine LeO.bind ?_ (fun _ => ?_))
      | exact ih0 _ _ _
      | exact impl_IsPairing.mono _ _ _
      | exact laws_eqChordS.mono _ _ _
      | exact laws_toChordS.mono _ _
      | exact spec_IsPairing.mono _ _ _
      | exact LeO.none _
      | refine LeO.ite ?_ ?_
      | refine LeO.bind ?_ (fun _ => ?_)
theorem laws_FnExactIsPairing.mono : ∀ a0 a1 k, LeO (laws_FnExactIsPairing.f k a0 a1) (laws_FnExactIsPairing.f (k + 1) a0 a1) := by
  intro a0 a1 k
  have ih0 := laws_FnExactIsPairing.mono_l k
  unfold laws_FnExactIsPairing.f
  repeat' first
      | (with_reducible exact ih0 _ _ _)
      | (with_reducible exact impl_IsPairing.mono _ _ _)
      | (with_reducible exact laws_eqChordS.mono _ _ _)
      | (with_reducible exact laws_toChordS.mono _ _)
      | (with_reducible exact spec_IsPairing.mono _ _ _)
      | (with_reducible exact LeO.refl _)
      | (with_reducible exact LeO.none _)
      | (with_reducible refine LeO.ite ?_ ?_)
      | (with_reducible refine LeO.bind ?_ (fun _ => ?_))
      | exact ih0 _ _ _
      | exact impl_IsPairing.mono _ _ _
      | exact laws_eqChordS.mono _ _ _
      | exact laws_toChordS.mono _ _
      | exact spec_IsPairing.mono _ _ _
      | exact LeO.none _
      | refine LeO.ite ?_ ?_
      | refine LeO.bind ?_ (fun _ => ?_)
set_option maxHeartbeats 8000000 in
set_option maxRecDepth 100000 in
theorem laws_FnExactIsPairing.calls (k : Nat) (a0 : Int) (A1 : Option Addr) (c1 : Nat) (l1 : List (S50)) (r : Bool) (w : World) (hr1 : Kd.C k50 w A1 l1.length l1) (hc1 : l1.length ≤ c1) (h : laws_FnExactIsPairing.f k a0 l1 = some r) :
    Calls Try.prog 9 #[.int .i64 a0, .slice A1 l1.length c1] w fun e w' => e = .returned (.bool r) ∧ Below w.heap.size w w' := by
  have HR1 := Aside0.mk hr1
  have HC1 := Aside0.mk hc1
  clear hr1 hc1
  have HB := Aside0.mk (Below.refl w.heap.size w)
  have H : ((laws_szChordS.f l1 1048576).bind fun t403 => (if t403 < 0 then (some true) else ((laws_toChordS.f k l1).bind fun t404 => ((spec_IsPairing.f k a0 t404).bind fun bt407 => ((laws_toChordS.f k l1).bind fun t409 => ((impl_IsPairing.f k a0 t409).bind fun bt412 => (if (bt412.1 != bt407.1) = true then (laws_FnExactIsPairing.j0 k l1 t409 true) else (laws_FnExactIsPairing.j0 k l1 t409 (bt412.2 != bt407.2))))))))) = some r := h
  clear h
  replace H := Option.bind_eq_some_iff.mp H
  obtain ⟨t403, A30, H⟩ := H
  replace H : (if t403 < 0 then (some true) else ((laws_toChordS.f k l1).bind fun t404 => ((spec_IsPairing.f k a0 t404).bind fun bt407 => ((laws_toChordS.f k l1).bind fun t409 => ((impl_IsPairing.f k a0 t409).bind fun bt412 => (if (bt412.1 != bt407.1) = true then (laws_FnExactIsPairing.j0 k l1 t409 true) else (laws_FnExactIsPairing.j0 k l1 t409 (bt412.2 != bt407.2)))))))) = some r := H
  have A3 := Aside0.mk A30
  clear A30
  by_cases c4 : t403 < 0
  · rw [if_pos c4] at H
    have c4b0 : decide (t403 < 0) = true := decide_eq_true c4
    clear c4
    obtain rfl := Option.some.inj H
    go_enter Try.func9, Try.ntmps9
    go_wp2_with (first | ((with_reducible refine gate_callee (f := 15) rfl ?_); refine goesL_ (some 13) rfl rfl Try.func15 (by kernel_rfl) rfl #[.slice A1 l1.length c1, .int .i64 1048576] rfl (by (try simp only [List.map_toArray, List.map_cons, List.map_nil]); first | done | rfl | (simp only [List.length_drop, List.length_take]; rfl)) ?_; (with_reducible refine (laws_szChordS.calls _ _ l1 1048576 t403 _ ?side1 ?side2 A3.out).mono ?_); (case side1 => repeat (first | exact HR1.out | (with_reducible refine Kd.C_alloc ?_ _) | (with_reducible refine Kd.C_drewN ?_ _) | (with_reducible refine Kd.C_drew ?_))); (case side2 => exact HC1.out); rintro e w' ⟨rfl, ⟨nd, rfl⟩⟩; refine ⟨_, rfl, ?_⟩))
    go_ret
    exact ⟨by first | rfl | (simp [errW_none, errW_some] <;> rfl) | (simp [*, errW_none, errW_some] <;> rfl), by repeat (first | (with_reducible first | exact HB.out | apply below_alloc | apply pw_below_drewN | apply below_drew1) | exact HB.out)⟩
  · rw [if_neg c4] at H
    have c4b0 : decide (t403 < 0) = false := decide_eq_false c4
    clear c4
    replace H := Option.bind_eq_some_iff.mp H
    obtain ⟨t404, A50, H⟩ := H
    replace H : ((spec_IsPairing.f k a0 t404).bind fun bt407 => ((laws_toChordS.f k l1).bind fun t409 => ((impl_IsPairing.f k a0 t409).bind fun bt412 => (if (bt412.1 != bt407.1) = true then (laws_FnExactIsPairing.j0 k l1 t409 true) else (laws_FnExactIsPairing.j0 k l1 t409 (bt412.2 != bt407.2)))))) = some r := H
    have A5 := Aside0.mk A50
    clear A50
    replace H := Option.bind_eq_some_iff.mp H
    obtain ⟨⟨t407, t408⟩, A60, H⟩ := H
    replace H : ((laws_toChordS.f k l1).bind fun t409 => ((impl_IsPairing.f k a0 t409).bind fun bt412 => (if (bt412.1 != t407) = true then (laws_FnExactIsPairing.j0 k l1 t409 true) else (laws_FnExactIsPairing.j0 k l1 t409 (bt412.2 != t408))))) = some r := H
    have A6 := Aside0.mk A60
    clear A60
    replace H := Option.bind_eq_some_iff.mp H
    obtain ⟨t409, A70, H⟩ := H
    replace H : ((impl_IsPairing.f k a0 t409).bind fun bt412 => (if (bt412.1 != t407) = true then (laws_FnExactIsPairing.j0 k l1 t409 true) else (laws_FnExactIsPairing.j0 k l1 t409 (bt412.2 != t408)))) = some r := H
    have A7 := Aside0.mk A70
    clear A70
    replace H := Option.bind_eq_some_iff.mp H
    obtain ⟨⟨t412, t413⟩, A80, H⟩ := H
    replace H : (if (t412 != t407) = true then (laws_FnExactIsPairing.j0 k l1 t409 true) else (laws_FnExactIsPairing.j0 k l1 t409 (t413 != t408))) = some r := H
    have A8 := Aside0.mk A80
    clear A80
    have HC9 := Aside0.mk H
    clear H
    go_enter Try.func9, Try.ntmps9
    go_upto_region 8 with (first | ((with_reducible refine gate_callee (f := 15) rfl ?_); refine goesL_ (some 13) rfl rfl Try.func15 (by kernel_rfl) rfl #[.slice A1 l1.length c1, .int .i64 1048576] rfl (by (try simp only [List.map_toArray, List.map_cons, List.map_nil]); first | done | rfl | (simp only [List.length_drop, List.length_take]; rfl)) ?_; (with_reducible refine (laws_szChordS.calls _ _ l1 1048576 t403 _ ?side1 ?side2 A3.out).mono ?_); (case side1 => repeat (first | exact HR1.out | (with_reducible refine Kd.C_alloc ?_ _) | (with_reducible refine Kd.C_drewN ?_ _) | (with_reducible refine Kd.C_drew ?_))); (case side2 => exact HC1.out); rintro e w' ⟨rfl, ⟨nd, rfl⟩⟩; refine ⟨_, rfl, ?_⟩) | ((with_reducible refine gate_callee (f := 17) rfl ?_); refine goesL_ (some 19) rfl rfl Try.func17 (by kernel_rfl) rfl #[.slice A1 l1.length c1] rfl (by (try simp only [List.map_toArray, List.map_cons, List.map_nil]); first | done | rfl | (simp only [List.length_drop, List.length_take]; rfl)) ?_; (with_reducible refine (laws_toChordS.calls k _ _ l1 t404 _ ?side1 ?side2 A5.out).mono ?_); (case side1 => repeat (first | exact HR1.out | (with_reducible refine Kd.C_alloc ?_ _) | (with_reducible refine Kd.C_drewN ?_ _) | (with_reducible refine Kd.C_drew ?_))); (case side2 => exact HC1.out); rintro e w10 ⟨v405, rfl, ho0, hb⟩; refine ⟨_, rfl, ?_⟩; have n0_ := Aside0.mk (Kd.R_lower ho0 (below_size (by repeat (first | (with_reducible first | exact HB.out | apply below_alloc | apply pw_below_drewN | apply below_drew1) | exact HB.out)))); have n1_ := Aside0.mk (below_step (by repeat (first | (with_reducible first | exact HB.out | apply below_alloc | apply pw_below_drewN | apply below_drew1) | exact HB.out)) hb); clear HB; have HO406 := n0_; have HB := n1_; clear n0_ n1_; (try clear hb); (try clear hb2); (try clear hk); (try clear hi); (try clear ho0); obtain ⟨Ao11, co11, eo11⟩ := Kd.R_slice HO406.out; subst eo11) | ((with_reducible refine gate_callee (f := 35) rfl ?_); refine goesL_ (some 20) rfl rfl Try.func35 (by kernel_rfl) rfl #[.int .i64 a0, .slice Ao11 t404.length co11] rfl (by (try simp only [List.map_toArray, List.map_cons, List.map_nil]); first | done | rfl | (simp only [List.length_drop, List.length_take]; rfl)) ?_; (with_reducible refine (spec_IsPairing.calls k a0 _ _ t404 t407 t408 _ ?side1 ?side2 A6.out).mono ?_); (case side1 => repeat (first | exact (Kd.R_reads' HO406.out).2.2 | (with_reducible refine Kd.C_alloc ?_ _) | (with_reducible refine Kd.C_drewN ?_ _) | (with_reducible refine Kd.C_drew ?_))); (case side2 => exact (Kd.R_reads' HO406.out).2.1); rintro e w12 ⟨rfl, hb⟩; refine ⟨_, rfl, ?_⟩; have n0_ := Aside0.mk (Kd.R_below (by (with_reducible repeat (first | apply Kd.R_alloc | apply Kd.R_drewN | apply Kd.R_drew)); exact HO406.out) hb); have n1_ := Aside0.mk (below_step (by repeat (first | (with_reducible first | exact HB.out | apply below_alloc | apply pw_below_drewN | apply below_drew1) | exact HB.out)) hb); clear HO406; clear HB; have HO406 := n0_; have HB := n1_; clear n0_ n1_; (try clear hb); (try clear hb2); (try clear hk); (try clear hi)) | ((with_reducible refine gate_callee (f := 17) rfl ?_); refine goesL_ (some 24) rfl rfl Try.func17 (by kernel_rfl) rfl #[.slice A1 l1.length c1] rfl (by (try simp only [List.map_toArray, List.map_cons, List.map_nil]); first | done | rfl | (simp only [List.length_drop, List.length_take]; rfl)) ?_; (with_reducible refine (laws_toChordS.calls k _ _ l1 t409 _ ?side1 ?side2 A7.out).mono ?_); (case side1 => repeat (first | exact (Kd.C_below HR1.out HB.out) | (with_reducible refine Kd.C_alloc ?_ _) | (with_reducible refine Kd.C_drewN ?_ _) | (with_reducible refine Kd.C_drew ?_))); (case side2 => exact HC1.out); rintro e w13 ⟨v410, rfl, ho0, hb⟩; refine ⟨_, rfl, ?_⟩; have n0_ := Aside0.mk (Kd.R_elder' (by (with_reducible repeat (first | apply Kd.R_alloc | apply Kd.R_drewN | apply Kd.R_drew)); exact HO406.out) (Kd.R_base ho0) hb); have n1_ := Aside0.mk (Kd.R_lower (Kd.R_new' ho0 (Kd.R_lt (by (with_reducible repeat (first | apply Kd.R_alloc | apply Kd.R_drewN | apply Kd.R_drew)); exact HO406.out))) (below_size (by repeat (first | (with_reducible first | exact HB.out | apply below_alloc | apply pw_below_drewN | apply below_drew1) | exact HB.out)))); have n2_ := Aside0.mk (below_step (by repeat (first | (with_reducible first | exact HB.out | apply below_alloc | apply pw_below_drewN | apply below_drew1) | exact HB.out)) hb); clear HO406; clear HB; have HO406 := n0_; have HO411 := n1_; have HB := n2_; clear n0_ n1_ n2_; (try clear hb); (try clear hb2); (try clear hk); (try clear hi); (try clear ho0); obtain ⟨Ao14, co14, eo14⟩ := Kd.R_slice HO411.out; subst eo14) | ((with_reducible refine gate_callee (f := 36) rfl ?_); refine goesL_ (some 28) rfl rfl Try.func36 (by kernel_rfl) rfl #[.int .i64 a0, .slice Ao14 t409.length co14] rfl (by (try simp only [List.map_toArray, List.map_cons, List.map_nil]); first | done | rfl | (simp only [List.length_drop, List.length_take]; rfl)) ?_; (with_reducible refine (impl_IsPairing.calls k a0 _ _ t409 t412 t413 _ ?side1 ?side2 A8.out).mono ?_); (case side1 => repeat (first | exact (Kd.R_reads' HO411.out).2.2 | (with_reducible refine Kd.C_alloc ?_ _) | (with_reducible refine Kd.C_drewN ?_ _) | (with_reducible refine Kd.C_drew ?_))); (case side2 => exact (Kd.R_reads' HO411.out).2.1); rintro e w15 ⟨rfl, hb⟩; refine ⟨_, rfl, ?_⟩; have n0_ := Aside0.mk (Kd.R_below (by (with_reducible repeat (first | apply Kd.R_alloc | apply Kd.R_drewN | apply Kd.R_drew)); exact HO406.out) hb); have n1_ := Aside0.mk (Kd.R_below (by (with_reducible repeat (first | apply Kd.R_alloc | apply Kd.R_drewN | apply Kd.R_drew)); exact HO411.out) hb); have n2_ := Aside0.mk (below_step (by repeat (first | (with_reducible first | exact HB.out | apply below_alloc | apply pw_below_drewN | apply below_drew1) | exact HB.out)) hb); clear HO406; clear HO411; clear HB; have HO406 := n0_; have HO411 := n1_; have HB := n2_; clear n0_ n1_ n2_; (try clear hb); (try clear hb2); (try clear hk); (try clear hi)))
    (try simp only [Act.put, List.setIfInBounds_toArray, List.set_cons_zero, List.set_cons_succ])
    go_cut [38] (fun v38 wc => ∃ (kq : Nat) (x38_8 : Bool), v38 = .bool x38_8 ∧ Aside0 (laws_FnExactIsPairing.j0 kq l1 t409 x38_8 = some r) ∧ Aside0 (kq ≤ k) ∧ Aside0 (Kd.R k52 52 wc w.heap.size (fun _ => True) (.slice Ao14 t409.length co14) t409) ∧ Aside0 (Below w.heap.size w wc))
    case first =>
      have H := HC9.out
      clear HC9
      by_cases c16 : (t412 != t407) = true
      · rw [if_pos c16] at H
        have c16b0 : (t412 != t407) = true := c16
        (try (have c16b1 : decide (t412 = t407) = false := by simpa using c16))
        (try (have c16b2 : (t412 == t407) = false := by simpa using c16))
        (try (have c16b3 : ¬ (t412 = t407) := by simpa using c16))
        clear c16
        (first | rw [c16b0] | (simp only [i64_w, i32_w]; rw [c16b0]) | skip)
        have H' := Aside0.mk H
        clear H
        go_wp2
        go_meet
        case rel => exact ⟨_, (true), (by first | rfl | (simp; done) | (simp [*]; done)), H', ⟨by first | omega | exact Nat.le_refl _⟩, ⟨by (with_reducible repeat (first | apply Kd.R_alloc | apply Kd.R_drewN | apply Kd.R_drew)); exact Kd.R_mono HO411.out (fun _ hk => trivial)⟩, ⟨by repeat (first | (with_reducible first | exact HB.out | apply below_alloc | apply pw_below_drewN | apply below_drew1) | exact HB.out)⟩⟩
      · rw [if_neg c16] at H
        have c16b0 : (t412 != t407) = false := by simpa using c16
        (try (have c16b1 : decide (t412 = t407) = true := by simpa using c16))
        (try (have c16b2 : (t412 == t407) = true := by simpa using c16))
        clear c16
        (first | rw [c16b0] | (simp only [i64_w, i32_w]; rw [c16b0]) | skip)
        have H' := Aside0.mk H
        clear H
        go_wp2
        go_meet
        case rel => exact ⟨_, ((t413 != t408)), (by first | rfl | (simp; done) | (simp [*]; done)), H', ⟨by first | omega | exact Nat.le_refl _⟩, ⟨by (with_reducible repeat (first | apply Kd.R_alloc | apply Kd.R_drewN | apply Kd.R_drew)); exact Kd.R_mono HO411.out (fun _ hk => trivial)⟩, ⟨by repeat (first | (with_reducible first | exact HB.out | apply below_alloc | apply pw_below_drewN | apply below_drew1) | exact HB.out)⟩⟩
    case rest =>
      clear HC9
      try clear c1
      try clear p2
      try clear c3
      try clear c4
      try clear c4b0
      try clear c9
      try clear c15
      try clear c16
      try clear c16b0
      try clear c16b1
      try clear c16b2
      obtain ⟨kq, x38_8, rfl, HA, HJ8, HO_8, HB⟩ := hcut
      cases kq with
      | zero => exact absurd HA.out (by simp [laws_FnExactIsPairing.j0])
      | succ kj8 =>
        have H := HA.out
        clear HA
        simp only [laws_FnExactIsPairing.j0] at H
        by_cases c17 : x38_8 = true
        · subst c17
          have H1 : (some false) = some r := by rw [if_pos rfl] at H; exact H
          clear H
          have H := H1
          clear H1
          obtain rfl := Option.some.inj H
          go_wp2
          go_ret
          exact ⟨by first | rfl | (simp [errW_none, errW_some] <;> rfl) | (simp [*, errW_none, errW_some] <;> rfl), by repeat (first | (with_reducible first | exact HB.out | apply below_alloc | apply pw_below_drewN | apply below_drew1) | exact HB.out)⟩
        · replace c17 := Bool.eq_false_iff.mpr c17
          subst c17
          have H1 : ((laws_toChordS.f kj8 l1).bind fun t414 => ((laws_eqChordS.f kj8 t409 t414).bind fun t417 => (if t417 = true then (some true) else (some false)))) = some r := by rw [if_neg (show ¬ (false = true) by decide)] at H; exact H
          clear H
          have H := H1
          clear H1
          replace H := Option.bind_eq_some_iff.mp H
          obtain ⟨t414, A180, H⟩ := H
          replace H : ((laws_eqChordS.f kj8 t409 t414).bind fun t417 => (if t417 = true then (some true) else (some false))) = some r := H
          have A18 := Aside0.mk A180
          clear A180
          replace H := Option.bind_eq_some_iff.mp H
          obtain ⟨t417, A190, H⟩ := H
          replace H : (if t417 = true then (some true) else (some false)) = some r := H
          have A19 := Aside0.mk A190
          clear A190
          by_cases c20 : t417 = true
          · subst c20
            have H1 : (some true) = some r := by rw [if_pos rfl] at H; exact H
            clear H
            have H := H1
            clear H1
            obtain rfl := Option.some.inj H
            go_wp2_with (first | ((with_reducible refine gate_callee (f := 17) rfl ?_); refine goesL_ (some 41) rfl rfl Try.func17 (by kernel_rfl) rfl #[.slice A1 l1.length c1] rfl (by (try simp only [List.map_toArray, List.map_cons, List.map_nil]); first | done | rfl | (simp only [List.length_drop, List.length_take]; rfl)) ?_; (with_reducible refine (laws_toChordS.calls kj8 _ _ l1 t414 _ ?side1 ?side2 A18.out).mono ?_); (case side1 => repeat (first | exact (Kd.C_below HR1.out HB.out) | (with_reducible refine Kd.C_alloc ?_ _) | (with_reducible refine Kd.C_drewN ?_ _) | (with_reducible refine Kd.C_drew ?_))); (case side2 => exact HC1.out); rintro e w21 ⟨v415, rfl, ho0, hb⟩; refine ⟨_, rfl, ?_⟩; have n0_ := Aside0.mk (Kd.R_elder' (by (with_reducible repeat (first | apply Kd.R_alloc | apply Kd.R_drewN | apply Kd.R_drew)); exact HO_8.out) (Kd.R_base ho0) hb); have n1_ := Aside0.mk (Kd.R_lower (Kd.R_new' ho0 (Kd.R_lt (by (with_reducible repeat (first | apply Kd.R_alloc | apply Kd.R_drewN | apply Kd.R_drew)); exact HO_8.out))) (below_size (by repeat (first | (with_reducible first | exact HB.out | apply below_alloc | apply pw_below_drewN | apply below_drew1) | exact HB.out)))); have n2_ := Aside0.mk (below_step (by repeat (first | (with_reducible first | exact HB.out | apply below_alloc | apply pw_below_drewN | apply below_drew1) | exact HB.out)) hb); clear HO_8; clear HB; have HO_8 := n0_; have HO416 := n1_; have HB := n2_; clear n0_ n1_ n2_; (try clear hb); (try clear hb2); (try clear hk); (try clear hi); (try clear ho0); obtain ⟨Ao22, co22, eo22⟩ := Kd.R_slice HO416.out; subst eo22) | ((with_reducible refine gate_callee (f := 19) rfl ?_); refine goesL_ (some 42) rfl rfl Try.func19 (by kernel_rfl) rfl #[.slice Ao14 t409.length co14, .slice Ao22 t414.length co22] rfl (by (try simp only [List.map_toArray, List.map_cons, List.map_nil]); first | done | rfl | (simp only [List.length_drop, List.length_take]; rfl)) ?_; (with_reducible refine (laws_eqChordS.calls kj8 _ _ t409 _ _ t414 true _ ?side1 ?side2 ?side3 ?side4 A19.out).mono ?_); (case side1 => repeat (first | exact (Kd.R_reads' HO_8.out).2.2 | (with_reducible refine Kd.C_alloc ?_ _) | (with_reducible refine Kd.C_drewN ?_ _) | (with_reducible refine Kd.C_drew ?_))); (case side2 => exact (Kd.R_reads' HO_8.out).2.1); (case side3 => repeat (first | exact (Kd.R_reads' HO416.out).2.2 | (with_reducible refine Kd.C_alloc ?_ _) | (with_reducible refine Kd.C_drewN ?_ _) | (with_reducible refine Kd.C_drew ?_))); (case side4 => exact (Kd.R_reads' HO416.out).2.1); rintro e w23 ⟨rfl, hb⟩; refine ⟨_, rfl, ?_⟩; have n0_ := Aside0.mk (Kd.R_below (by (with_reducible repeat (first | apply Kd.R_alloc | apply Kd.R_drewN | apply Kd.R_drew)); exact HO_8.out) hb); have n1_ := Aside0.mk (Kd.R_below (by (with_reducible repeat (first | apply Kd.R_alloc | apply Kd.R_drewN | apply Kd.R_drew)); exact HO416.out) hb); have n2_ := Aside0.mk (below_step (by repeat (first | (with_reducible first | exact HB.out | apply below_alloc | apply pw_below_drewN | apply below_drew1) | exact HB.out)) hb); clear HO_8; clear HO416; clear HB; have HO_8 := n0_; have HO416 := n1_; have HB := n2_; clear n0_ n1_ n2_; (try clear hb); (try clear hb2); (try clear hk); (try clear hi)))
            go_ret
            exact ⟨by first | rfl | (simp [errW_none, errW_some] <;> rfl) | (simp [*, errW_none, errW_some] <;> rfl), by repeat (first | (with_reducible first | exact HB.out | apply below_alloc | apply pw_below_drewN | apply below_drew1) | exact HB.out)⟩
          · replace c20 := Bool.eq_false_iff.mpr c20
            subst c20
            have H1 : (some false) = some r := by rw [if_neg (show ¬ (false = true) by decide)] at H; exact H
            clear H
            have H := H1
            clear H1
            obtain rfl := Option.some.inj H
            go_wp2_with (first | ((with_reducible refine gate_callee (f := 17) rfl ?_); refine goesL_ (some 41) rfl rfl Try.func17 (by kernel_rfl) rfl #[.slice A1 l1.length c1] rfl (by (try simp only [List.map_toArray, List.map_cons, List.map_nil]); first | done | rfl | (simp only [List.length_drop, List.length_take]; rfl)) ?_; (with_reducible refine (laws_toChordS.calls kj8 _ _ l1 t414 _ ?side1 ?side2 A18.out).mono ?_); (case side1 => repeat (first | exact (Kd.C_below HR1.out HB.out) | (with_reducible refine Kd.C_alloc ?_ _) | (with_reducible refine Kd.C_drewN ?_ _) | (with_reducible refine Kd.C_drew ?_))); (case side2 => exact HC1.out); rintro e w24 ⟨v415, rfl, ho0, hb⟩; refine ⟨_, rfl, ?_⟩; have n0_ := Aside0.mk (Kd.R_elder' (by (with_reducible repeat (first | apply Kd.R_alloc | apply Kd.R_drewN | apply Kd.R_drew)); exact HO_8.out) (Kd.R_base ho0) hb); have n1_ := Aside0.mk (Kd.R_lower (Kd.R_new' ho0 (Kd.R_lt (by (with_reducible repeat (first | apply Kd.R_alloc | apply Kd.R_drewN | apply Kd.R_drew)); exact HO_8.out))) (below_size (by repeat (first | (with_reducible first | exact HB.out | apply below_alloc | apply pw_below_drewN | apply below_drew1) | exact HB.out)))); have n2_ := Aside0.mk (below_step (by repeat (first | (with_reducible first | exact HB.out | apply below_alloc | apply pw_below_drewN | apply below_drew1) | exact HB.out)) hb); clear HO_8; clear HB; have HO_8 := n0_; have HO416 := n1_; have HB := n2_; clear n0_ n1_ n2_; (try clear hb); (try clear hb2); (try clear hk); (try clear hi); (try clear ho0); obtain ⟨Ao25, co25, eo25⟩ := Kd.R_slice HO416.out; subst eo25) | ((with_reducible refine gate_callee (f := 19) rfl ?_); refine goesL_ (some 42) rfl rfl Try.func19 (by kernel_rfl) rfl #[.slice Ao14 t409.length co14, .slice Ao25 t414.length co25] rfl (by (try simp only [List.map_toArray, List.map_cons, List.map_nil]); first | done | rfl | (simp only [List.length_drop, List.length_take]; rfl)) ?_; (with_reducible refine (laws_eqChordS.calls kj8 _ _ t409 _ _ t414 false _ ?side1 ?side2 ?side3 ?side4 A19.out).mono ?_); (case side1 => repeat (first | exact (Kd.R_reads' HO_8.out).2.2 | (with_reducible refine Kd.C_alloc ?_ _) | (with_reducible refine Kd.C_drewN ?_ _) | (with_reducible refine Kd.C_drew ?_))); (case side2 => exact (Kd.R_reads' HO_8.out).2.1); (case side3 => repeat (first | exact (Kd.R_reads' HO416.out).2.2 | (with_reducible refine Kd.C_alloc ?_ _) | (with_reducible refine Kd.C_drewN ?_ _) | (with_reducible refine Kd.C_drew ?_))); (case side4 => exact (Kd.R_reads' HO416.out).2.1); rintro e w26 ⟨rfl, hb⟩; refine ⟨_, rfl, ?_⟩; have n0_ := Aside0.mk (Kd.R_below (by (with_reducible repeat (first | apply Kd.R_alloc | apply Kd.R_drewN | apply Kd.R_drew)); exact HO_8.out) hb); have n1_ := Aside0.mk (Kd.R_below (by (with_reducible repeat (first | apply Kd.R_alloc | apply Kd.R_drewN | apply Kd.R_drew)); exact HO416.out) hb); have n2_ := Aside0.mk (below_step (by repeat (first | (with_reducible first | exact HB.out | apply below_alloc | apply pw_below_drewN | apply below_drew1) | exact HB.out)) hb); clear HO_8; clear HO416; clear HB; have HO_8 := n0_; have HO416 := n1_; have HB := n2_; clear n0_ n1_ n2_; (try clear hb); (try clear hb2); (try clear hk); (try clear hi)))
            go_ret
            exact ⟨by first | rfl | (simp [errW_none, errW_some] <;> rfl) | (simp [*, errW_none, errW_some] <;> rfl), by repeat (first | (with_reducible first | exact HB.out | apply below_alloc | apply pw_below_drewN | apply below_drew1) | exact HB.out)⟩


end Go.Proofs.Ytkiookioejckbaa.X
