-- The printed functions that FnExactAddChord needs. Written by a program of this work (wip/tools/xpack.py). Not trusted: it is checked when it is built.
import Derived.Test.YtkiookioejckbaaZFnExactAddChord2
namespace Go.Proofs.Ytkiookioejckbaa.X
open Go.RowKit Go.Proofs.YtkiookioejckbaaW.PrintWords Go.Proofs.YtkiookioejckbaaW.PrintLast Go.Proofs.YtkiookioejckbaaW.PrintMore
attribute [local go_sem] max2_int min2_int max_two min_two max_three min_three max_four min_four   -- for this text's walks alone
set_option linter.unusedVariables false
set_option linter.unusedSimpArgs false

/-! ### impl_AddChord: function 48 (given by hand) -/
def cmpC (x : S52) (c0 c1 : Int) : Int := if x.f0 < c0 then -1 else if x.f0 > c0 then 1 else if x.f1 < c1 then -1 else if x.f1 > c1 then 1 else 0
theorem cmpC_says (x : S52) (c0 c1 : Int) : impl_compareChords.f 4 x.f0 x.f1 c0 c1 = some (cmpC x c0 c1) := by
  have hc : ∀ a b : Int, cmp_Compare_int.f a b = some (if a < b then -1 else if a > b then 1 else 0) := by
    intro a b
    unfold cmp_Compare_int.f cmp_isNaN_int.f
    simp
    split
    · rfl
    · split <;> rfl
  have h0 : wrap64 (0 + 1) = 1 := by unfold wrap64; omega
  have h1 : wrap64 (1 + 1) = 2 := by unfold wrap64; omega
  unfold impl_compareChords.f cmpC
  simp only [hc, Option.bind_some]
  simp only [cmp_Or_int.f, cmp_Or_int.l0, List.length_cons, List.length_nil, h0, h1, rd]
  by_cases e0 : x.f0 < c0
  · simp [e0]
  · by_cases e1 : x.f0 > c0
    · have e2 : ¬ x.f0 ≤ c0 := by omega
      simp [e0, e1, e2]
    · have e2 : x.f0 ≤ c0 := by omega
      have e3 : ¬ c0 < x.f0 := by omega
      by_cases d0 : x.f1 < c1
      · simp [e0, e2, e3, d0]
      · by_cases d1 : x.f1 > c1
        · simp [e0, e2, e3, d0, d1]
        · simp [e0, e2, e3, d0, d1]
/-- A binary search: the least place that q does not call less. -/
def bsL (q : Int → Int) : Nat → Nat → Nat → Nat
  | 0, lo, _ => lo
  | n + 1, lo, hi => if lo < hi then (if q (((lo + hi) / 2 : Nat) : Int) < 0 then bsL q n ((lo + hi) / 2 + 1) hi else bsL q n lo ((lo + hi) / 2)) else lo
theorem bsL_le (q : Int → Int) : ∀ (n lo hi : Nat), lo ≤ hi → bsL q n lo hi ≤ hi
  | 0, lo, hi, h => h
  | n + 1, lo, hi, h => by
    simp only [bsL]
    split
    · split
      · exact bsL_le q n _ _ (by omega)
      · exact Nat.le_trans (bsL_le q n _ _ (by omega)) (by omega)
    · exact h
theorem bsL_lt (q : Int → Int) (n lo hi : Nat) (h : lo < hi) : bsL q (n + 1) lo hi = if q (((lo + hi) / 2 : Nat) : Int) < 0 then bsL q n ((lo + hi) / 2 + 1) hi else bsL q n lo ((lo + hi) / 2) := by
  simp only [bsL, if_pos h]
theorem bsL_ge (q : Int → Int) (n lo hi : Nat) (h : ¬ lo < hi) : bsL q n lo hi = lo := by
  cases n with
  | zero => rfl
  | succ n => simp only [bsL, if_neg h]
theorem bsL_more (q : Int → Int) : ∀ (n m lo hi : Nat), hi - lo ≤ n → hi - lo ≤ m → bsL q n lo hi = bsL q m lo hi
  | 0, m, lo, hi, h1, h2 => by rw [bsL_ge q 0 lo hi (by omega), bsL_ge q m lo hi (by omega)]
  | n + 1, 0, lo, hi, h1, h2 => by rw [bsL_ge q 0 lo hi (by omega), bsL_ge q _ lo hi (by omega)]
  | n + 1, m + 1, lo, hi, h1, h2 => by
    by_cases h : lo < hi
    · rw [bsL_lt q n lo hi h, bsL_lt q m lo hi h]
      split
      · exact bsL_more q n m _ _ (by omega) (by omega)
      · exact bsL_more q n m _ _ (by omega) (by omega)
    · rw [bsL_ge q _ lo hi h, bsL_ge q _ lo hi h]
def bsOf (l : List S52) (c0 c1 : Int) : Nat := bsL (fun i => cmpC (rd_T52 l i) c0 c1) l.length 0 l.length
def bsHit (l : List S52) (c0 c1 : Int) : Bool := decide (bsOf l c0 c1 < l.length) && decide (cmpC (rd_T52 l (bsOf l c0 c1 : Nat)) c0 c1 = 0)
set_option maxHeartbeats 1000000 in
set_option maxRecDepth 100000 in
theorem bsearch_walk (A0 : Option Addr) (cap : Nat) (l : List S52) (c0 c1 : Int) (w : World) (hr0 : Kd.C k52 w A0 l.length l) (hc0 : l.length ≤ cap) (hl : l.length ≤ 1000000000) :
    Calls Try.prog 79 #[.slice A0 l.length cap, .agg #[.int .i64 c0, .int .i64 c1], .func (.func 54) #[] #[]] w fun e w' =>
      e = .returned (.tuple #[.int .i64 (bsOf l c0 c1 : Nat), .bool (bsHit l c0 c1)]) ∧ Below w.heap.size w w' := by
  have HC := Aside0.mk hr0
  have HCAP := Aside0.mk hc0
  obtain ⟨q, hq⟩ : ∃ q : Int → Int, q = fun i => cmpC (rd_T52 l i) c0 c1 := ⟨_, rfl⟩
  have HQ := Aside0.mk hq
  have hcmp : ∀ (i : Int) (W : World), Calls Try.prog 54 #[.agg #[.int .i64 (rd_T52 l i).f0, .int .i64 (rd_T52 l i).f1], .agg #[.int .i64 c0, .int .i64 c1]] W fun e w' => e = .returned (.int .i64 (q i)) ∧ Below W.heap.size W w' := by
    intro i W
    rw [hq]
    exact impl_compareChords.calls 4 _ _ _ _ _ W (cmpC_says _ _ _)
  have HCMP := Aside0.mk hcmp
  obtain ⟨I, hI⟩ : ∃ I, I = bsOf l c0 c1 := ⟨_, rfl⟩
  obtain ⟨F, hF⟩ : ∃ F, F = bsHit l c0 c1 := ⟨_, rfl⟩
  rw [← hI, ← hF]
  have HI := Aside0.mk (show bsL q l.length 0 l.length = I by rw [hI, hq]; rfl)
  have HF := Aside0.mk (show (decide (I < l.length) && decide (q (I : Nat) = 0)) = F by rw [hF, hI, hq]; rfl)
  have HL := Aside0.mk hl
  clear hI hF hcmp hq hr0 hc0 hl
  go_enter Try.func79, Try.ntmps79
  go_wp2_with fail
  have HB := Aside0.mk (below_alloc (Below.refl w.heap.size w) (.cells #[.int .i64 c0, .int .i64 c1] 52))
  have HX := Aside0.mk (show (w.alloc (.cells #[.int .i64 c0, .int .i64 c1] 52)).heap[w.heap.size]? = some (.cells #[.int .i64 c0, .int .i64 c1] 52 (0, 0)) from (MapKept.heap_alloc w _).1)
  go_loopg [9, 10] l.length (fun gg s9 s10 wr => ∃ (lo hi : Nat), s9 = .int .i64 (lo : Int) ∧ s10 = .int .i64 (hi : Int) ∧ lo ≤ hi ∧ hi ≤ l.length ∧ hi - lo ≤ gg ∧ Aside0 (bsL q (hi - lo) lo hi = I) ∧ Aside0 (Below w.heap.size w wr) ∧ Aside0 (wr.heap[w.heap.size]? = some (.cells #[.int .i64 c0, .int .i64 c1] 52 (0, 0))))
  case atStart => exact ⟨0, l.length, rfl, rfl, Nat.zero_le _, Nat.le_refl _, by omega, ⟨HI.out⟩, HB, HX⟩
  case round =>
    clear HB HX HI
    obtain ⟨lo, hi, rfl, rfl, h1, h2, h3, HI, HB, HX⟩ := hrel
    by_cases hlt : lo < hi
    · have hmid : (lo + hi) / 2 < l.length := by omega
      obtain ⟨ad, hA, m0, m1⟩ := at_T52 (Kd.C_below HC.out HB.out) (((lo : Int) + (hi : Int)) / 2) (by omega) (by omega)
      cases hA
      have b0 : wr.cell? ⟨w.heap.size, 0, none⟩ = some (.int .i64 c0) := (blk_cell HX.out 0).trans rfl
      have b1 : wr.cell? ⟨w.heap.size, 1, none⟩ = some (.int .i64 c1) := (blk_cell HX.out 1).trans rfl
      have hc := HCMP.out (((lo : Int) + (hi : Int)) / 2)
      have hx1 : 0 ≤ ((lo : Int) + (hi : Int)) / 2 := by omega
      have hx2 : ((lo : Int) + (hi : Int)) / 2 < (l.length : Int) := by omega
      obtain ⟨z, hz⟩ : ∃ z, z = q (((lo : Int) + (hi : Int)) / 2) := ⟨_, rfl⟩
      rw [← hz] at hc
      have HZ := Aside0.mk hz
      clear hz
      have mixed : Try.prog.follows Departure.mixedOrders = true := by kernel_rfl
      have hl2 : hi ≤ 1000000000 := by have := HL.out; omega
      have HQC := Aside0.mk hc
      clear hc
      go_wp2_with fail
      go_region_with_o (go_at_call 54; refine (HQC.out _).mono ?_; rintro e w' ⟨rfl, hb⟩)
      all_goals
        have B2 := Aside0.mk (below_step HB.out (below_step (below_drew1 (Below.refl _ wr)) hb))
        have X2 := Aside0.mk (blk_below (blk_drew HX.out) hb)
        clear hb HB HX m0 m1 b0 b1
        by_cases hzn : z < 0
        · go_wp2_with fail
          go_roundg (hi - ((lo + hi) / 2 + 1))
          (case measure => omega)
          (case rel =>
            refine ⟨(lo + hi) / 2 + 1, hi, by rw [show (((lo + hi) / 2 + 1 : Nat) : Int) = ((lo : Int) + (hi : Int)) / 2 + 1 by omega], rfl, by omega, h2, Nat.le_refl _, ⟨?_⟩, B2, X2⟩
            have hI := HI.out
            obtain ⟨d, hd⟩ : ∃ d, hi - lo = d + 1 := ⟨hi - lo - 1, by omega⟩
            rw [hd, bsL_lt q d lo hi hlt, show (((lo + hi) / 2 : Nat) : Int) = ((lo : Int) + (hi : Int)) / 2 by omega, ← HZ.out, if_pos hzn] at hI
            rw [← hI]
            exact bsL_more q _ _ _ _ (Nat.le_refl _) (by omega))
        · go_wp2_with fail
          go_roundg ((lo + hi) / 2 - lo)
          (case measure => omega)
          (case rel =>
            refine ⟨lo, (lo + hi) / 2, rfl, by rw [show (((lo + hi) / 2 : Nat) : Int) = ((lo : Int) + (hi : Int)) / 2 by omega], by omega, by omega, Nat.le_refl _, ⟨?_⟩, B2, X2⟩
            have hI := HI.out
            obtain ⟨d, hd⟩ : ∃ d, hi - lo = d + 1 := ⟨hi - lo - 1, by omega⟩
            rw [hd, bsL_lt q d lo hi hlt, show (((lo + hi) / 2 : Nat) : Int) = ((lo : Int) + (hi : Int)) / 2 by omega, ← HZ.out, if_neg (Int.not_lt.2 hzn)] at hI
            rw [← hI]
            exact bsL_more q _ _ _ _ (Nat.le_refl _) (by omega))
    · obtain rfl : hi = lo := by omega
      obtain rfl : hi = I := by
        have hI := HI.out
        rwa [bsL_ge q _ hi hi hlt] at hI
      clear HI
      by_cases hn : hi < l.length
      · obtain ⟨ad, hA, m0, m1⟩ := at_T52 (Kd.C_below HC.out HB.out) (hi : Int) (by omega) (by omega)
        cases hA
        have b0 : wr.cell? ⟨w.heap.size, 0, none⟩ = some (.int .i64 c0) := (blk_cell HX.out 0).trans rfl
        have b1 : wr.cell? ⟨w.heap.size, 1, none⟩ = some (.int .i64 c1) := (blk_cell HX.out 1).trans rfl
        rw [Int.toNat_natCast] at m0 m1
        have hc := HCMP.out (hi : Int)
        have mixed : Try.prog.follows Departure.mixedOrders = true := by kernel_rfl
        have hnd : decide ((hi : Int) < (l.length : Int)) = true := decide_eq_true (by omega)
        have hnn : decide (hi < l.length) = true := decide_eq_true hn
        obtain ⟨z, hz⟩ : ∃ z, z = q (hi : Int) := ⟨_, rfl⟩
        rw [← hz] at hc
        have HZ := Aside0.mk (show decide (z = 0) = F from by have h := HF.out; rw [← hz, hnn, Bool.true_and] at h; exact h)
        clear hz
        have HQC := Aside0.mk hc
        clear hc
        obtain ⟨x0, hx0⟩ : ∃ x0, x0 = (rd_T52 l (hi : Int)).f0 := ⟨_, rfl⟩
        obtain ⟨x1, hx1⟩ : ∃ x1, x1 = (rd_T52 l (hi : Int)).f1 := ⟨_, rfl⟩
        rw [← hx0] at m0
        rw [← hx1] at m1
        have HQC := Aside0.mk (fun W => by have h := HQC.out W; rw [← hx0, ← hx1] at h; exact h)
        clear hx0 hx1
        go_wp2_with fail
        refine start_ (n := 16) (S := fun w' => w'.cell? (ad.add (hi * 2)) = some (.int .i64 x0) ∧ w'.cell? ⟨(ad.add (hi * 2)).block, (ad.add (hi * 2)).off + 1, none⟩ = some (.int .i64 x1) ∧ w'.cell? ⟨w.heap.size, 0, none⟩ = some (.int .i64 c0) ∧ w'.cell? ⟨w.heap.size, 1, none⟩ = some (.int .i64 c1)) (ds := [11]) #[false, false, false, false, false, false, false, false, false, false, false, false, false, false, false, false] (by kernel_rfl) rfl rfl ⟨m0, m1, b0, b1⟩ (fun hHeld => ?_)
        refine pure_ (i := 0) (N := some 35) (v := ?_) (a' := ?_) #[true, false, false, false, false, false, false, false, false, false, false, false, false, false, false, false] rfl rfl (by kernel_rfl) (fun _ _ _ h => h) (Or.inl ⟨by rfl, ?_⟩) ?_ ?_
        rotate_left
        · intro w'
          go_simp
          with_reducible rfl
        rotate_left
        · simp only [Act.put, List.setIfInBounds_toArray, List.set_cons_zero, List.set_cons_succ, i64_w, i32_w]
          rfl
        refine pure_ (i := 1) (N := some 36) (v := ?_) (a' := ?_) #[true, true, false, false, false, false, false, false, false, false, false, false, false, false, false, false] rfl rfl (by kernel_rfl) (fun _ _ _ h => h) (Or.inl ⟨by rfl, ?_⟩) ?_ ?_
        rotate_left
        · intro w'
          go_simp
          with_reducible rfl
        rotate_left
        · simp only [Act.put, List.setIfInBounds_toArray, List.set_cons_zero, List.set_cons_succ, i64_w, i32_w]
          rfl
        refine pure_ (i := 2) (N := some 37) (v := ?_) (a' := ?_) #[true, true, true, false, false, false, false, false, false, false, false, false, false, false, false, false] rfl rfl (by kernel_rfl) (fun _ _ _ h => h) (Or.inl ⟨by rfl, ?_⟩) ?_ ?_
        rotate_left
        · intro w'
          go_simp
          with_reducible rfl
        rotate_left
        · simp only [Act.put, List.setIfInBounds_toArray, List.set_cons_zero, List.set_cons_succ, i64_w, i32_w]
          rfl
        refine pure_ (i := 3) (N := some 38) (v := ?_) (a' := ?_) #[true, true, true, true, false, false, false, false, false, false, false, false, false, false, false, false] rfl rfl (by kernel_rfl) (fun _ _ _ h => h) (Or.inl ⟨by rfl, ?_⟩) ?_ ?_
        rotate_left
        · intro w'
          go_simp
          with_reducible rfl
        rotate_left
        · simp only [Act.put, List.setIfInBounds_toArray, List.set_cons_zero, List.set_cons_succ, i64_w, i32_w]
          rfl
        refine pure_ (i := 4) (N := some 39) (v := ?_) (a' := ?_) #[true, true, true, true, true, false, false, false, false, false, false, false, false, false, false, false] rfl rfl (by kernel_rfl) (fun _ _ _ h => h) (Or.inl ⟨by rfl, ?_⟩) ?_ ?_
        rotate_left
        · intro w'
          go_simp
          with_reducible rfl
        rotate_left
        · simp only [Act.put, List.setIfInBounds_toArray, List.set_cons_zero, List.set_cons_succ, i64_w, i32_w]
          rfl
        refine pure_ (i := 5) (N := some 40) (v := ?_) (a' := ?_) #[true, true, true, true, true, true, false, false, false, false, false, false, false, false, false, false] rfl rfl (by kernel_rfl) (fun _ _ _ h => h) (Or.inl ⟨by rfl, ?_⟩) ?_ ?_
        rotate_left
        · intro w'
          go_simp
          with_reducible rfl
        rotate_left
        · simp only [Act.put, List.setIfInBounds_toArray, List.set_cons_zero, List.set_cons_succ, i64_w, i32_w]
          rfl
        refine pure_ (i := 6) (N := some 41) (v := ?_) (a' := ?_) #[true, true, true, true, true, true, true, false, false, false, false, false, false, false, false, false] rfl rfl (by kernel_rfl) (fun _ _ _ h => h) (Or.inl ⟨by rfl, ?_⟩) ?_ ?_
        rotate_left
        · intro w'
          go_simp
          with_reducible rfl
        rotate_left
        · simp only [Act.put, List.setIfInBounds_toArray, List.set_cons_zero, List.set_cons_succ, i64_w, i32_w]
          rfl
        refine pure_ (i := 7) (N := some 42) (v := ?_) (a' := ?_) #[true, true, true, true, true, true, true, true, false, false, false, false, false, false, false, false] rfl rfl (by kernel_rfl) (fun _ _ _ h => h) (Or.inl ⟨by rfl, ?_⟩) ?_ ?_
        rotate_left
        · intro w'
          go_simp
          with_reducible rfl
        rotate_left
        · simp only [Act.put, List.setIfInBounds_toArray, List.set_cons_zero, List.set_cons_succ, i64_w, i32_w]
          rfl
        refine pure_ (i := 8) (N := some 43) (v := ?_) (a' := ?_) #[true, true, true, true, true, true, true, true, true, false, false, false, false, false, false, false] rfl rfl (by kernel_rfl) (fun _ _ _ h => h) (Or.inl ⟨by rfl, ?_⟩) ?_ ?_
        rotate_left
        · intro w'
          go_simp
          with_reducible rfl
        rotate_left
        · simp only [Act.put, List.setIfInBounds_toArray, List.set_cons_zero, List.set_cons_succ, i64_w, i32_w]
          rfl
        refine take_ (i := 9) (N := some 44) (v := ?_) (a' := ?_) #[true, true, true, true, true, true, true, true, true, true, false, false, false, false, false, false] rfl rfl (by kernel_rfl) (fun _ _ _ h => h) (Or.inl ⟨by rfl, ?_⟩) hHeld ?_ ?_
        rotate_left
        · rintro w' ⟨s0, s1, s2, s3⟩
          go_simp
          with_reducible rfl
        rotate_left
        · simp only [Act.put, List.setIfInBounds_toArray, List.set_cons_zero, List.set_cons_succ, i64_w, i32_w]
          rfl
        refine take_ (i := 10) (N := some 45) (v := ?_) (a' := ?_) #[true, true, true, true, true, true, true, true, true, true, true, false, false, false, false, false] rfl rfl (by kernel_rfl) (fun _ _ _ h => h) (Or.inl ⟨by rfl, ?_⟩) hHeld ?_ ?_
        rotate_left
        · rintro w' ⟨s0, s1, s2, s3⟩
          go_simp
          with_reducible rfl
        rotate_left
        · simp only [Act.put, List.setIfInBounds_toArray, List.set_cons_zero, List.set_cons_succ, i64_w, i32_w]
          rfl
        refine last_ (i := 11) (N := some 46) #[true, true, true, true, true, true, true, true, true, true, true, true, false, false, false, false] rfl rfl (by kernel_rfl) (by decide) (fun K hK => ?_)
        refine call_ 54 #[.agg #[.int .i64 x0, .int .i64 x1], .agg #[.int .i64 c0, .int .i64 c1]] (by rfl) rfl ?_ ?_
        · have he := fun W => enters_ (P := Try.prog) Try.func54 (by kernel_rfl) rfl #[.agg #[.int .i64 x0, .int .i64 x1], .agg #[.int .i64 c0, .int .i64 c1]] W
          unfold execOp
          simp [resolve, Deferred.ofValue, invoke, Act.eval, he]
        refine (HQC.out _).mono ?_
        rintro e w3 ⟨rfl, hb⟩
        refine ⟨_, rfl, ?_⟩
        refine hK.out _ _ ?_
        clear hK K
        refine norm_ (a' := ?_) ?_ ?_
        rotate_left
        · show Act.put _ (some 46) _ = _
          simp only [Act.put, List.setIfInBounds_toArray, List.set_cons_zero, List.set_cons_succ, i64_w, i32_w]
          rfl
        refine pure_ (i := 12) (N := some 47) (v := ?_) (a' := ?_) #[true, true, true, true, true, true, true, true, true, true, true, true, true, false, false, false] rfl rfl (by kernel_rfl) (fun _ _ _ h => h) (Or.inl ⟨by rfl, ?_⟩) ?_ ?_
        rotate_left
        · intro w'
          go_simp
          with_reducible rfl
        rotate_left
        · simp only [Act.put, List.setIfInBounds_toArray, List.set_cons_zero, List.set_cons_succ, i64_w, i32_w]
          rfl
        refine pure_ (i := 13) (N := some 48) (v := ?_) (a' := ?_) #[true, true, true, true, true, true, true, true, true, true, true, true, true, true, false, false] rfl rfl (by kernel_rfl) (fun _ _ _ h => h) (Or.inl ⟨by rfl, ?_⟩) ?_ ?_
        rotate_left
        · intro w'
          go_simp
          with_reducible rfl
        rotate_left
        · simp only [Act.put, List.setIfInBounds_toArray, List.set_cons_zero, List.set_cons_succ, i64_w, i32_w]
          rfl
        refine pure_ (i := 14) (N := some 6) (v := ?_) (a' := ?_) #[true, true, true, true, true, true, true, true, true, true, true, true, true, true, true, false] rfl rfl (by kernel_rfl) (fun _ _ _ h => h) (Or.inl ⟨by rfl, ?_⟩) ?_ ?_
        rotate_left
        · intro w'
          go_simp
          with_reducible rfl
        rotate_left
        · simp only [Act.put, List.setIfInBounds_toArray, List.set_cons_zero, List.set_cons_succ, i64_w, i32_w]
          rfl
        refine pure_ (i := 15) (N := some 7) (v := ?_) (a' := ?_) #[true, true, true, true, true, true, true, true, true, true, true, true, true, true, true, true] rfl rfl (by kernel_rfl) (fun _ _ _ h => h) (Or.inl ⟨by rfl, ?_⟩) ?_ ?_
        rotate_left
        · intro w'
          go_simp
          with_reducible rfl
        rotate_left
        · simp only [Act.put, List.setIfInBounds_toArray, List.set_cons_zero, List.set_cons_succ, i64_w, i32_w]
          rfl
        refine done_ (by kernel_rfl) ?_
        have B2 := Aside0.mk (below_step HB.out (below_step (below_drew1 (Below.refl _ wr)) hb))
        clear hb
        go_wp2_with fail
        go_ret2
        exact ⟨by rw [← HZ.out]; rfl, B2.out⟩
      · have hF := HF.out
        rw [decide_eq_false hn, Bool.false_and] at hF
        subst hF
        have hnd : decide ((hi : Int) < (l.length : Int)) = false := decide_eq_false (by omega)
        have mixed : Try.prog.follows Departure.mixedOrders = true := by kernel_rfl
        go_wp2_with fail
        refine start_ (n := 16) (S := fun w' => True) (ds := []) #[false, false, false, false, false, false, false, false, false, false, false, false, false, false, false, false] (by kernel_rfl) rfl rfl trivial (fun hHeld => ?_)
        refine pure_ (i := 0) (N := some 35) (v := ?_) (a' := ?_) #[true, false, false, false, false, false, false, false, false, false, false, false, false, false, false, false] rfl rfl (by kernel_rfl) (fun _ _ _ h => h) (Or.inl ⟨by rfl, ?_⟩) ?_ ?_
        rotate_left
        · intro w'
          go_simp
          with_reducible rfl
        rotate_left
        · simp only [Act.put, List.setIfInBounds_toArray, List.set_cons_zero, List.set_cons_succ, i64_w, i32_w]
          rfl
        refine pure_ (i := 1) (N := some 36) (v := ?_) (a' := ?_) #[true, true, false, false, false, false, false, false, false, false, false, false, false, false, false, false] rfl rfl (by kernel_rfl) (fun _ _ _ h => h) (Or.inl ⟨by rfl, ?_⟩) ?_ ?_
        rotate_left
        · intro w'
          go_simp
          with_reducible rfl
        rotate_left
        · simp only [Act.put, List.setIfInBounds_toArray, List.set_cons_zero, List.set_cons_succ, i64_w, i32_w]
          rfl
        refine pure_ (i := 2) (N := some 37) (v := ?_) (a' := ?_) #[true, true, true, false, false, false, false, false, false, false, false, false, false, false, false, false] rfl rfl (by kernel_rfl) (fun _ _ _ h => h) (Or.inl ⟨by rfl, ?_⟩) ?_ ?_
        rotate_left
        · intro w'
          go_simp
          with_reducible rfl
        rotate_left
        · simp only [Act.put, List.setIfInBounds_toArray, List.set_cons_zero, List.set_cons_succ, i64_w, i32_w]
          rfl
        refine pure_ (i := 3) (N := some 38) (v := ?_) (a' := ?_) #[true, true, true, true, false, false, false, false, false, false, false, false, false, false, false, false] rfl rfl (by kernel_rfl) (fun _ _ _ h => h) (Or.inl ⟨by rfl, ?_⟩) ?_ ?_
        rotate_left
        · intro w'
          go_simp
          with_reducible rfl
        rotate_left
        · simp only [Act.put, List.setIfInBounds_toArray, List.set_cons_zero, List.set_cons_succ, i64_w, i32_w]
          rfl
        refine pure_ (i := 4) (N := some 39) (v := ?_) (a' := ?_) #[true, true, true, true, true, false, false, false, false, false, false, false, false, false, false, false] rfl rfl (by kernel_rfl) (fun _ _ _ h => h) (Or.inl ⟨by rfl, ?_⟩) ?_ ?_
        rotate_left
        · intro w'
          go_simp
          with_reducible rfl
        rotate_left
        · simp only [Act.put, List.setIfInBounds_toArray, List.set_cons_zero, List.set_cons_succ, i64_w, i32_w]
          rfl
        refine pure_ (i := 5) (N := some 40) (v := undef) (a' := ?_) #[true, true, true, true, true, true, false, false, false, false, false, false, false, false, false, false] rfl rfl (by kernel_rfl) (fun _ _ _ h => h) (Or.inr ⟨by rfl, rfl⟩) ?_ ?_
        rotate_left
        · simp only [Act.put, List.setIfInBounds_toArray, List.set_cons_zero, List.set_cons_succ, i64_w, i32_w]
          rfl
        refine pure_ (i := 6) (N := some 41) (v := undef) (a' := ?_) #[true, true, true, true, true, true, true, false, false, false, false, false, false, false, false, false] rfl rfl (by kernel_rfl) (fun _ _ _ h => h) (Or.inr ⟨by rfl, rfl⟩) ?_ ?_
        rotate_left
        · simp only [Act.put, List.setIfInBounds_toArray, List.set_cons_zero, List.set_cons_succ, i64_w, i32_w]
          rfl
        refine pure_ (i := 7) (N := some 42) (v := undef) (a' := ?_) #[true, true, true, true, true, true, true, true, false, false, false, false, false, false, false, false] rfl rfl (by kernel_rfl) (fun _ _ _ h => h) (Or.inr ⟨by rfl, rfl⟩) ?_ ?_
        rotate_left
        · simp only [Act.put, List.setIfInBounds_toArray, List.set_cons_zero, List.set_cons_succ, i64_w, i32_w]
          rfl
        refine pure_ (i := 8) (N := some 43) (v := undef) (a' := ?_) #[true, true, true, true, true, true, true, true, true, false, false, false, false, false, false, false] rfl rfl (by kernel_rfl) (fun _ _ _ h => h) (Or.inr ⟨by rfl, rfl⟩) ?_ ?_
        rotate_left
        · simp only [Act.put, List.setIfInBounds_toArray, List.set_cons_zero, List.set_cons_succ, i64_w, i32_w]
          rfl
        refine pure_ (i := 9) (N := some 44) (v := undef) (a' := ?_) #[true, true, true, true, true, true, true, true, true, true, false, false, false, false, false, false] rfl rfl (by kernel_rfl) (fun _ _ _ h => h) (Or.inr ⟨by rfl, rfl⟩) ?_ ?_
        rotate_left
        · simp only [Act.put, List.setIfInBounds_toArray, List.set_cons_zero, List.set_cons_succ, i64_w, i32_w]
          rfl
        refine pure_ (i := 10) (N := some 45) (v := undef) (a' := ?_) #[true, true, true, true, true, true, true, true, true, true, true, false, false, false, false, false] rfl rfl (by kernel_rfl) (fun _ _ _ h => h) (Or.inr ⟨by rfl, rfl⟩) ?_ ?_
        rotate_left
        · simp only [Act.put, List.setIfInBounds_toArray, List.set_cons_zero, List.set_cons_succ, i64_w, i32_w]
          rfl
        refine pure_ (i := 11) (N := some 46) (v := undef) (a' := ?_) #[true, true, true, true, true, true, true, true, true, true, true, true, false, false, false, false] rfl rfl (by kernel_rfl) (fun _ _ _ h => h) (Or.inr ⟨by rfl, rfl⟩) ?_ ?_
        rotate_left
        · simp only [Act.put, List.setIfInBounds_toArray, List.set_cons_zero, List.set_cons_succ, i64_w, i32_w]
          rfl
        refine pure_ (i := 12) (N := some 47) (v := undef) (a' := ?_) #[true, true, true, true, true, true, true, true, true, true, true, true, true, false, false, false] rfl rfl (by kernel_rfl) (fun _ _ _ h => h) (Or.inr ⟨by rfl, rfl⟩) ?_ ?_
        rotate_left
        · simp only [Act.put, List.setIfInBounds_toArray, List.set_cons_zero, List.set_cons_succ, i64_w, i32_w]
          rfl
        refine pure_ (i := 13) (N := some 48) (v := ?_) (a' := ?_) #[true, true, true, true, true, true, true, true, true, true, true, true, true, true, false, false] rfl rfl (by kernel_rfl) (fun _ _ _ h => h) (Or.inl ⟨by rfl, ?_⟩) ?_ ?_
        rotate_left
        · intro w'
          go_simp
          with_reducible rfl
        rotate_left
        · simp only [Act.put, List.setIfInBounds_toArray, List.set_cons_zero, List.set_cons_succ, i64_w, i32_w]
          rfl
        refine pure_ (i := 14) (N := some 6) (v := ?_) (a' := ?_) #[true, true, true, true, true, true, true, true, true, true, true, true, true, true, true, false] rfl rfl (by kernel_rfl) (fun _ _ _ h => h) (Or.inl ⟨by rfl, ?_⟩) ?_ ?_
        rotate_left
        · intro w'
          go_simp
          with_reducible rfl
        rotate_left
        · simp only [Act.put, List.setIfInBounds_toArray, List.set_cons_zero, List.set_cons_succ, i64_w, i32_w]
          rfl
        refine pure_ (i := 15) (N := some 7) (v := ?_) (a' := ?_) #[true, true, true, true, true, true, true, true, true, true, true, true, true, true, true, true] rfl rfl (by kernel_rfl) (fun _ _ _ h => h) (Or.inl ⟨by rfl, ?_⟩) ?_ ?_
        rotate_left
        · intro w'
          go_simp
          with_reducible rfl
        rotate_left
        · simp only [Act.put, List.setIfInBounds_toArray, List.set_cons_zero, List.set_cons_succ, i64_w, i32_w]
          rfl
        refine done_ (by kernel_rfl) ?_
        go_wp2_with fail
        go_ret2
        exact ⟨rfl, below_drew1 HB.out⟩
section
open Go.Lib
/-- Chords' cells, one behind the other. -/
def chF : List S52 → List Value
  | [] => []
  | x :: l => .int .i64 x.f0 :: .int .i64 x.f1 :: chF l
theorem chF_len : ∀ l : List S52, (chF l).length = l.length * 2
  | [] => rfl
  | x :: l => by simp [chF, chF_len l]; omega
theorem chF_append : ∀ a b : List S52, chF (a ++ b) = chF a ++ chF b
  | [], b => rfl
  | x :: a, b => by simp [chF, chF_append a b]
theorem chF_take : ∀ (l : List S52) (i : Nat), (chF l).take (i * 2) = chF (l.take i)
  | [], i => by simp [chF]
  | x :: l, 0 => by simp [chF]
  | x :: l, i + 1 => by
    rw [show (i + 1) * 2 = i * 2 + 1 + 1 by omega]
    simp [chF, chF_take l i]
theorem chF_drop : ∀ (l : List S52) (i : Nat), (chF l).drop (i * 2) = chF (l.drop i)
  | [], i => by simp [chF]
  | x :: l, 0 => by simp
  | x :: l, i + 1 => by
    rw [show (i + 1) * 2 = i * 2 + 1 + 1 by omega]
    simp [chF, chF_drop l i]
theorem chF_one : ∀ (l : List S52), ∀ v ∈ chF l, v.oneCell' = true
  | [], v, h => by simp [chF] at h
  | x :: l, v, h => by
    simp only [chF, List.mem_cons] at h
    rcases h with rfl | rfl | h
    · rfl
    · rfl
    · exact chF_one l v h
theorem chF_get : ∀ (l : List S52) (j : Nat) (p : S52), l[j]? = some p → ((chF l).drop (j * 2)).take 2 = [.int .i64 p.f0, .int .i64 p.f1]
  | [], j, p, h => by simp at h
  | x :: l, 0, p, h => by simp at h; subst h; simp [chF]
  | x :: l, j + 1, p, h => by
    rw [show (j + 1) * 2 = j * 2 + 1 + 1 by omega]
    simp only [chF, List.drop_succ_cons]
    exact chF_get l j p (by simpa using h)
theorem chord_leave2 {w : World} {base : Nat} {ok : Nat → Prop} {g m cap : Nat} {cur : Array Value} {l : List S52} (hb : w.heap[g]? = some (.cells cur 52 (0, 0))) (hbase : base ≤ g) (hcur : cur.size = cap * 2) (hmax : cap ≤ maxLen) (hl : l.length = m) (hm : m ≤ cap) (hok : ok g)
    (hH : cur.toList.take (m * 2) = chF l) :
    Kd.R k52 52 w base ok (.slice (some ⟨g, 0, none⟩) m cap) l := by
  have hinner : (cur.toList.take (m * 2)).length = m * 2 := by
    rw [List.length_take, Array.length_toList]; omega
  refine ⟨fun k hk => ?_, cur.toList.take (m * 2), ?_, ?_⟩
  · simp [Value.ownBlock] at hk
    exact hk ▸ hok
  · show w.ownsRow base 52 2 _ l.length _
    rw [hl]
    exact ⟨hinner, .inr ⟨g, cap, cur, rfl, hbase, hb, hm, hmax, hcur, rfl⟩⟩
  · show Reps _ 2 l _
    refine ⟨by rw [hinner, hl], fun j p hj => ?_⟩
    rw [hH]
    have e := chF_get l j p hj
    rw [e]
    exact k52_mkM _ _ _ p
theorem chF_of : ∀ (l : List S52) (cs : List Value), cs.length = l.length * 2 → (∀ j p, l[j]? = some p → (cs.drop (j * 2)).take 2 = [.int .i64 p.f0, .int .i64 p.f1]) → cs = chF l
  | [], cs, hl, _ => by
    have : cs = [] := List.eq_nil_of_length_eq_zero (by simpa using hl)
    rw [this]; rfl
  | x :: l, cs, hl, h => by
    have h0 := h 0 x rfl
    simp only [Nat.zero_mul, List.drop_zero] at h0
    obtain ⟨r, hr⟩ : ∃ r, cs = [.int .i64 x.f0, .int .i64 x.f1] ++ r := ⟨cs.drop 2, by rw [← h0, List.take_append_drop]⟩
    subst hr
    simp only [List.length_append, List.length_cons, List.length_nil] at hl
    have ih := chF_of l r (by omega) (fun j p hj => by
      have := h (j + 1) p (by simpa using hj)
      rw [show (j + 1) * 2 = j * 2 + 1 + 1 by omega] at this
      simpa using this)
    rw [ih]; rfl
theorem chord_block {w : World} {base : Nat} {ok : Nat → Prop} {g n cap : Nat} {l : List S52} (h : Kd.R k52 52 w base ok (.slice (some ⟨g, 0, none⟩) n cap) l) (hl : 0 < l.length) :
    ∃ cur : Array Value, w.heap[g]? = some (.cells cur 52 (0, 0)) ∧ cur.size = cap * 2 ∧ cap ≤ maxLen ∧ cur.toList.take (l.length * 2) = chF l := by
  have hn := (Kd.R_reads' h).1
  obtain ⟨_, inner, hown, hreps⟩ := h
  rcases hown.2 with ⟨e0, _⟩ | ⟨g', cap', cur, e0, hb, hg, hn', hm, hs, ht⟩
  · cases e0
  · injection e0 with e1 _ e3
    injection e1 with e1
    injection e1 with e1
    subst e1; subst e3
    have hsz : k52.sz = 2 := rfl
    rw [hsz] at ht hs
    refine ⟨cur, hg, hs, hm, ?_⟩
    rw [ht]
    refine chF_of l inner (by have := hreps.1; rw [hsz] at this; exact this) (fun j p hj => ?_)
    have hM := hreps.2 j p hj
    rw [hsz] at hM
    exact k52_openM hM
/-- 'copy' of elements of two cells each. -/
theorem run_copy_two (w : World) (dT sT ty elem : TypeId) (b o dLen dCap : Nat) (a : Addr) (sLen sCap : Nat) (cs : List Value)
    (hu : Try.prog.underlying dT = some (.slice elem)) (hs : (Try.prog.info? elem).map (·.size) = some 2) (hn : cs.length = Nat.min sLen dLen * 2)
    (hsrc : ∀ j v, cs[j]? = some v → w.cell? (a.add j) = some v) (hc : ∀ j, j < cs.length → (w.cell? ⟨b, o + j, none⟩).isSome = true) (hf : ∀ j, j < cs.length → w.frozen? ⟨b, o + j, none⟩ = false) (h1 : ∀ v ∈ cs, v.oneCell' = true) :
    (Builtin.copy_ #[dT, sT] ty #[.slice (some ⟨b, o, none⟩) dLen dCap, .slice (some a) sLen sCap]).run Try.prog w = .ok (goInt (Nat.min sLen dLen)) (w.setCells b o cs) := by
  have hl := run_loadCells_list (P := Try.prog) w a cs hsrc
  rw [hn] at hl
  have hst := run_storeCells_cells (P := Try.prog) b o cs 0 w (by simpa using hc) (by simpa using hf) h1
  simp only [Nat.add_zero] at hst
  cases hq : Try.prog.info? elem with
  | none => simp [hq] at hs
  | some i =>
    have hi : i.size = 2 := by simpa [hq] using hs
    simp [Builtin.copy_, run_underlying hu, Builtin.lenOf, Builtin.firstCells, sizeOf, typeInfo, hq, hi, hl, hst]
set_option maxHeartbeats 1000000 in
set_option maxRecDepth 100000 in
theorem insert_shift (g cap i vb vc : Nat) (l : List S52) (x : S52) (w : World) (cur : Array Value) (hb : w.heap[g]? = some (.cells cur 52 (0, 0))) (hs : cur.size = cap * 2) (hH : cur.toList.take (l.length * 2) = chF l)
    (hv : w.heap[vb]? = some (.cells #[.int .i64 x.f0, .int .i64 x.f1] 52 (0, 0))) (hi : i < l.length) (hroom : l.length + 1 ≤ cap) (hc63 : cap ≤ 9223372036854775807) (hne : vb ≠ g) :
    Calls Try.prog 80 #[.slice (some ⟨g, 0, none⟩) l.length cap, .int .i64 i, .slice (some ⟨vb, 0, none⟩) 1 vc] w fun e w' =>
      e = .returned (.slice (some ⟨g, 0, none⟩) (l.length + 1) cap) ∧ w' = (w.drew.setCells g ((i + 1) * 2) (chF (l.drop i))).setCells g (i * 2) [.int .i64 x.f0, .int .i64 x.f1] := by
  have u25 := Try.underlying25
  have hsz : (Try.prog.info? 52).map (·.size) = some 2 := by kernel_rfl
  obtain ⟨cs, hcs⟩ : ∃ cs, cs = chF (l.drop i) := ⟨_, rfl⟩
  have hcl : cs.length = (l.length - i) * 2 := by rw [hcs, chF_len, List.length_drop]
  have h1c : ∀ v ∈ cs, v.oneCell' = true := by rw [hcs]; exact chF_one _
  have hcell : ∀ t, t < cap * 2 → (w.cell? ⟨g, t, none⟩).isSome = true := fun t ht => by simp [World.cell?, hb, hs, ht]
  have hfz : ∀ t, w.frozen? ⟨g, t, none⟩ = false := fun t => by simp [World.frozen?, hb]
  have hread : ∀ j v, cs[j]? = some v → w.cell? ⟨g, i * 2 + j, none⟩ = some v := by
    intro j v hj
    have hjl : j < cs.length := (List.getElem?_eq_some_iff.1 hj).1
    have e : cur[i * 2 + j]? = some v := by
      rw [← Array.getElem?_toList, ← hj, hcs, ← chF_drop, List.getElem?_drop, ← hH, List.getElem?_take, if_pos (by omega)]
    simpa [World.cell?, hb] using e
  rw [← hcs]
  have hvc : ∀ j v, ([Value.int .i64 x.f0, .int .i64 x.f1] : List Value)[j]? = some v → w.cell? ⟨vb, j, none⟩ = some v := by
    intro j v hj
    simpa [World.cell?, hv] using hj
  have h1v : ∀ v ∈ ([Value.int .i64 x.f0, .int .i64 x.f1] : List Value), v.oneCell' = true := by
    intro v h
    simp at h
    rcases h with rfl | rfl <;> rfl
  have hov : ∀ lb cb, (callFunc 98 #[.slice (some ⟨vb, 0, none⟩) 1 vc, .slice (some ⟨g, (i + 1) * 2, none⟩) lb cb]).run Try.prog w = .ok (.value (.bool false)) w := fun lb cb => by
    rw [run_callFunc_extern Try.func98 (by kernel_rfl) (by kernel_rfl) (by kernel_rfl) (e := Extern.SlicesOverlaps.overlaps #[25, 25] #[4]) (by kernel_rfl),
      Lib.run_overlaps_apart w 25 4 52 Try.underlying25 2 (fun w => by kernel_rfl) ⟨vb, 0, none⟩ ⟨g, (i + 1) * 2, none⟩ 1 vc lb cb hne 52 52 2 (cap * 2) (by simp [World.shape?, hv]) (by simp [World.shape?, hb, hs]) (by omega) (by simp [World.frozen?, hv]) (by simp [World.frozen?, hv])]
    rfl
  obtain ⟨n, hn⟩ : ∃ n, n = l.length := ⟨_, rfl⟩
  rw [← hn] at hi hroom hcl ⊢
  have mixed : Try.prog.follows Departure.mixedOrders = true := by kernel_rfl
  have hz2 : ¬ ((i : Int) = (n : Int)) := by omega
  have hw1 : IntKind.i64.wrap ((i : Int) + 1) = (i : Int) + 1 := by rw [IntKind.wrap_i64]; omega
  have hb1 : (0 : Int) ≤ (i : Int) + 1 := by omega
  have hin : i ≤ n := by omega
  have htn : ((i : Int) + 1).toNat = i + 1 := by omega
  have hb2 : ¬ (cap = i + 1) := by omega
  have hb3 : (i : Int) ≤ (n : Int) + 1 := by omega
  have hb4 : ¬ (cap = i) := by omega
  have hcp1 : ∀ ty dc sc, (Builtin.copy_ #[25, 25] ty #[.slice (some ⟨g, (i + 1) * 2, none⟩) (n - i) dc, .slice (some ⟨g, i * 2, none⟩) (n + 1 - i) sc]).run Try.prog w.drew = .ok (goInt (Nat.min (n + 1 - i) (n - i))) (w.drew.setCells g ((i + 1) * 2) cs) := fun ty dc sc =>
    run_copy_two w.drew _ _ ty 52 g ((i + 1) * 2) (n - i) dc ⟨g, i * 2, none⟩ (n + 1 - i) sc cs Try.underlying25 hsz (by rw [hcl]; simp only [Nat.min_def]; split <;> omega)
      (fun j v hj => by rw [Addr.add_lit]; exact hread j v hj)
      (fun j hj => hcell _ (by omega)) (fun j hj => hfz _) h1c
  obtain ⟨W1, hW1⟩ : ∃ W1, W1 = w.drew.setCells g ((i + 1) * 2) cs := ⟨_, rfl⟩
  have hsp1 : ∀ k, k < cap * 2 → (W1.cell? ⟨g, k, none⟩).isSome = true := fun k hk => by
    rw [hW1]
    exact isSome_setCells g cs ((i + 1) * 2) w.drew (fun j hj => hcell _ (by omega)) k (hcell k hk)
  have hcp2 : ∀ (W : World), (∀ x, W.cell? x = W1.cell? x) → (∀ x, W.frozen? x = W1.frozen? x) → ∀ ty dc, (Builtin.copy_ #[25, 25] ty #[.slice (some ⟨g, i * 2, none⟩) (n + 1 - i) dc, .slice (some ⟨vb, 0, none⟩) 1 vc]).run Try.prog W = .ok (goInt (Nat.min 1 (n + 1 - i))) (W.setCells g (i * 2) [.int .i64 x.f0, .int .i64 x.f1]) := fun W hWc hWf ty dc =>
    run_copy_two W _ _ ty 52 g (i * 2) (n + 1 - i) dc ⟨vb, 0, none⟩ 1 vc _ Try.underlying25 hsz (by simp only [Nat.min_def, List.length_cons, List.length_nil]; split <;> omega)
      (fun j v hj => by
        rw [Addr.add_lit, hWc, hW1, World.cell?_setCells_out g _ _ _ _ (fun h _ => absurd h hne), Nat.zero_add]
        exact hvc j v hj)
      (fun j hj => by rw [hWc]; simp at hj; exact hsp1 _ (by omega)) (fun j hj => by rw [hWf, hW1, World.frozen?_setCells]; exact hfz _) h1v
  rw [← hW1] at hcp1
  clear hcell hfz hread hvc h1v h1c hsp1 hcs hcl hsz hH hn hs
  go_enter Try.func80, Try.ntmps80
  go_wp2_with (simp only [hov])
  go_region_law_o (refine step_copy_runI rfl _ _ 25 25 rfl _ _ (by simp [Act.eval, Act.put]) (by simp [Act.eval, Act.put]) (hcp1 _ _ _) ?_)
  go_wp2_with (at_builtin; refine wpList_copy_runI _ rfl _ _ 25 25 rfl _ _ rfl rfl (hcp2 _ (fun _ => rfl) (fun _ => rfl) _ _) ?_)
  go_ret
  first | exact ⟨rfl, rfl⟩ | exact ⟨rfl, by rw [hW1]⟩
set_option maxHeartbeats 1000000 in
set_option maxRecDepth 100000 in
theorem insert_grow (g i vb vc : Nat) (l : List S52) (x : S52) (w : World) (cur : Array Value) (hb : w.heap[g]? = some (.cells cur 52 (0, 0))) (hs : cur.size = l.length * 2) (hH : cur.toList.take (l.length * 2) = chF l)
    (hv : w.heap[vb]? = some (.cells #[.int .i64 x.f0, .int .i64 x.f1] 52 (0, 0))) (hi : i < l.length) (hl : l.length ≤ 1000000) :
    Calls Try.prog 80 #[.slice (some ⟨g, 0, none⟩) l.length l.length, .int .i64 i, .slice (some ⟨vb, 0, none⟩) 1 vc] w fun e w' =>
      ∃ (G : Nat) (ROW : Array Value), l.length + 1 ≤ G ∧ G ≤ maxLen ∧ ROW.size = G * 2 ∧ ROW.toList.take (i * 2) = chF (l.take i) ∧ e = .returned (.slice (some ⟨w.heap.size, 0, none⟩) (l.length + 1) G) ∧
        w' = (((w.alloc (.cells ROW 52)).drew.setCells w.heap.size (i * 2) [.int .i64 x.f0, .int .i64 x.f1]).drew).setCells w.heap.size ((i + 1) * 2) (chF (l.drop i)) := by
  have u25 := Try.underlying25
  obtain ⟨i0, hi0, hz0, hzs, hzb⟩ : ∃ i0, Try.prog.info? 52 = some i0 ∧ i0.zero = some (.agg #[.int .i64 0, .int .i64 0]) ∧ i0.size = 2 ∧ i0.bytes = 16 := by
    have h : (Try.prog.info? 52).map (fun i => (i.zero, i.size, i.bytes)) = some (some (.agg #[.int .i64 0, .int .i64 0]), 2, 16) := by kernel_rfl
    obtain ⟨i0, h1, h2⟩ := Option.map_eq_some_iff.1 h
    simp only [Prod.mk.injEq] at h2
    exact ⟨i0, h1, h2.1, h2.2.1, h2.2.2⟩
  have hsz : (Try.prog.info? 52).map (·.size) = some 2 := by rw [hi0]; simp [hzs]
  obtain ⟨cs, hcs⟩ : ∃ cs, cs = chF (l.drop i) := ⟨_, rfl⟩
  have hcl : cs.length = (l.length - i) * 2 := by rw [hcs, chF_len, List.length_drop]
  have h1c : ∀ v ∈ cs, v.oneCell' = true := by rw [hcs]; exact chF_one _
  obtain ⟨hd, hhd⟩ : ∃ hd, hd = chF (l.take i) := ⟨_, rfl⟩
  have hhl : hd.length = i * 2 := by rw [hhd, chF_len, List.length_take]; omega
  have hcur : ∀ j v, (chF l)[j]? = some v → w.cell? ⟨g, j, none⟩ = some v := by
    intro j v hj
    have hjl : j < (chF l).length := (List.getElem?_eq_some_iff.1 hj).1
    rw [chF_len] at hjl
    have e : cur[j]? = some v := by
      rw [← Array.getElem?_toList, ← hj, ← hH, List.getElem?_take, if_pos hjl]
    simpa [World.cell?, hb] using e
  have hread : ∀ j v, cs[j]? = some v → w.cell? ⟨g, i * 2 + j, none⟩ = some v := by
    intro j v hj
    rw [hcs, ← chF_drop, List.getElem?_drop] at hj
    exact hcur _ v hj
  have hreadh : ∀ j v, hd[j]? = some v → w.cell? ⟨g, j, none⟩ = some v := by
    intro j v hj
    rw [hhd, ← chF_take, List.getElem?_take] at hj
    split at hj
    · exact hcur _ v hj
    · cases hj
  rw [← hcs, ← hhd]
  have hvc : ∀ j v, ([Value.int .i64 x.f0, .int .i64 x.f1] : List Value)[j]? = some v → w.cell? ⟨vb, j, none⟩ = some v := by
    intro j v hj
    simpa [World.cell?, hv] using hj
  have h1v : ∀ v ∈ ([Value.int .i64 x.f0, .int .i64 x.f1] : List Value), v.oneCell' = true := by
    intro v h
    simp at h
    rcases h with rfl | rfl <;> rfl
  obtain ⟨n, hn⟩ : ∃ n, n = l.length := ⟨_, rfl⟩
  rw [← hn] at hi hcl hl ⊢
  have mixed : Try.prog.follows Departure.mixedOrders = true := by kernel_rfl
  have hbw : g < w.heap.size := (Array.getElem?_eq_some_iff.1 hb).1
  have hvw : vb < w.heap.size := (Array.getElem?_eq_some_iff.1 hv).1
  have hz2 : ¬ ((i : Int) = (n : Int)) := by omega
  have hz3 : (n : Int) < (n : Int) + 1 := by omega
  have hkk : (n : Int) + 1 - (i : Int) = ((n + 1 - i : Nat) : Int) := by omega
  have hik : i + (n + 1 - i) = n + 1 := by omega
  have hold : (Builtin.firstCells i0.size i (.slice (some ⟨g, 0, none⟩) i n)).run Try.prog w.drew = .ok hd.toArray w.drew := by
    rw [hzs]
    exact run_firstCells_some w.drew 2 i ⟨g, 0, none⟩ i n hd (by rw [hhl]) (fun j v hj => by
      rw [Addr.add_lit, Nat.zero_add]
      exact hreadh j v hj)
  obtain ⟨G, hG⟩ : ∃ G, G = grownCap w (n + 1) n 52 := ⟨_, rfl⟩
  obtain ⟨ROW, hROW⟩ : ∃ ROW : Array Value, ROW = hd.toArray ++ Builtin.zeroCells (Value.agg #[.int .i64 0, .int .i64 0]).cells (n + 1 - i) ++ Builtin.zeroCells (Value.agg #[.int .i64 0, .int .i64 0]).cells (G - (n + 1)) := ⟨_, rfl⟩
  have hrz : ∀ ty, (Builtin.append_ #[25, 3] ty #[.slice (some ⟨g, 0, none⟩) i n, .int .i64 ((n : Int) + 1 - (i : Int))]).run Try.prog w =
      .ok (.slice (some ⟨w.heap.size, 0, none⟩) (n + 1) G) (w.drew.alloc (.cells ROW 52)) := fun ty => by
    have h := Lib.run_append_grow_zeros w 25 3 ty 52 i0 _ .i64 .i64 Try.underlying25 Try.underlying3 hi0 hz0 (some ⟨g, 0, none⟩) i n hd hold (n + 1 - i) (by omega) (by omega) (by omega) (by omega) (by rw [hzb]; omega) (by rw [hzb, hik]; exact growslice_fits (by omega) (by omega))
    rw [hik] at h
    rw [hkk, hG, hROW, hG]
    exact h
  have hGn : n + 1 ≤ G := by rw [hG]; exact grownCap_ge w _ _ _
  have hG63 : G ≤ maxLen := by rw [hG]; exact grownCap_le_maxLen w (n + 1) n 52 (by unfold maxLen; omega)
  have hG63' : G ≤ 9223372036854775807 := by unfold maxLen at hG63; omega
  have hzc : ∀ k, (Builtin.zeroCells (Value.agg #[.int .i64 0, .int .i64 0]).cells k).size = k * 2 := by
    intro k
    simp [Builtin.zeroCells, Value.cells]
  have hRs : ROW.size = G * 2 := by
    rw [hROW, Array.size_append, Array.size_append, hzc, hzc]
    simp [hhl]
    omega
  have hRt : ROW.toList.take (i * 2) = hd := by
    rw [hROW, Array.toList_append, Array.toList_append, List.append_assoc]
    exact List.take_left' (by simpa using hhl)
  obtain ⟨W1, hW1⟩ : ∃ W1, W1 = w.drew.alloc (.cells ROW 52) := ⟨_, rfl⟩
  rw [← hW1] at hrz
  have hN : ∀ j, j < G * 2 → (W1.cell? ⟨w.heap.size, j, none⟩).isSome = true := fun j hj => by
    rw [hW1, World.cell?_alloc_at (w := w.drew) ROW _ w.heap.size j rfl, Array.getElem?_eq_getElem (by omega)]; rfl
  have hNf : ∀ j, W1.frozen? ⟨w.heap.size, j, none⟩ = false := fun j => by rw [hW1]; exact World.frozen?_alloc_at (w := w.drew) ROW _ w.heap.size j rfl
  have hOb : ∀ j v, w.cell? ⟨g, j, none⟩ = some v → W1.cell? ⟨g, j, none⟩ = some v := fun j v h => by rw [hW1, World.cell?_alloc_past (w := w.drew) _ g j hbw]; exact h
  have hOv : ∀ j v, w.cell? ⟨vb, j, none⟩ = some v → W1.cell? ⟨vb, j, none⟩ = some v := fun j v h => by rw [hW1, World.cell?_alloc_past (w := w.drew) _ vb j hvw]; exact h
  have hcpA : ∀ (W : World), (∀ x, W.cell? x = W1.cell? x) → (∀ x, W.frozen? x = W1.frozen? x) → ∀ ty dc, (Builtin.copy_ #[25, 25] ty #[.slice (some ⟨w.heap.size, i * 2, none⟩) (n + 1 - i) dc, .slice (some ⟨vb, 0, none⟩) 1 vc]).run Try.prog W = .ok (goInt (Nat.min 1 (n + 1 - i))) (W.setCells w.heap.size (i * 2) [.int .i64 x.f0, .int .i64 x.f1]) := fun W hWc hWf ty dc =>
    run_copy_two W _ _ ty 52 w.heap.size (i * 2) (n + 1 - i) dc ⟨vb, 0, none⟩ 1 vc _ Try.underlying25 hsz (by simp only [Nat.min_def, List.length_cons, List.length_nil]; split <;> omega)
      (fun j v hj => by rw [Addr.add_lit, hWc, Nat.zero_add]; exact hOv _ v (hvc j v hj))
      (fun j hj => by rw [hWc]; simp at hj; exact hN _ (by omega)) (fun j hj => by rw [hWf]; exact hNf _) h1v
  have hGi : ¬ (G = i) := by omega
  have hGim : ¬ (G = i + 1) := by omega
  have hci : ¬ (n = i) := by omega
  have hbN : g ≠ w.heap.size := by omega
  obtain ⟨W2, hW2⟩ : ∃ W2, W2 = W1.setCells w.heap.size (i * 2) [Value.int .i64 x.f0, .int .i64 x.f1] := ⟨_, rfl⟩
  have hcpB : ∀ (W : World), (∀ x, W.cell? x = W2.cell? x) → (∀ x, W.frozen? x = W2.frozen? x) → ∀ ty dc sc, (Builtin.copy_ #[25, 25] ty #[.slice (some ⟨w.heap.size, (i + 1) * 2, none⟩) (n - i) dc, .slice (some ⟨g, i * 2, none⟩) (n - i) sc]).run Try.prog W = .ok (goInt (Nat.min (n - i) (n - i))) (W.setCells w.heap.size ((i + 1) * 2) cs) := fun W hWc hWf ty dc sc =>
    run_copy_two W _ _ ty 52 w.heap.size ((i + 1) * 2) (n - i) dc ⟨g, i * 2, none⟩ (n - i) sc cs Try.underlying25 hsz (by rw [hcl]; simp only [Nat.min_def]; split <;> omega)
      (fun j v hj => by
        rw [Addr.add_lit, hWc, hW2, World.cell?_setCells_out _ _ _ _ _ (fun h _ => absurd h hbN)]
        exact hOb _ v (hread j v hj))
      (fun j hj => by rw [hWc, hW2]; exact isSome_setCells _ _ _ _ (fun t ht => hN _ (by simp at ht; omega)) _ (hN _ (by omega)))
      (fun j hj => by rw [hWf, hW2, World.frozen?_setCells]; exact hNf _) h1c
  subst hW2
  subst hW1
  have hE1 : ∀ x, ((w.alloc (.cells ROW 52)).drew).cell? x = (w.drew.alloc (.cells ROW 52)).cell? x := fun x => rfl
  have hE2 : ∀ x, ((w.alloc (.cells ROW 52)).drew).frozen? x = (w.drew.alloc (.cells ROW 52)).frozen? x := fun x => rfl
  have hw1 : IntKind.i64.wrap ((i : Int) + 1) = (i : Int) + 1 := by rw [IntKind.wrap_i64]; omega
  have hb1 : (0 : Int) ≤ (i : Int) + 1 := by omega
  have hin : i ≤ n := by omega
  have htn : ((i : Int) + 1).toNat = i + 1 := by omega
  have hb3 : (i : Int) ≤ (n : Int) := by omega
  have RT := Aside0.mk hRt
  have RS := Aside0.mk hRs
  clear hkk hik hold hROW hG hread hreadh hvc h1v h1c hcs hhd hhl hcl hcur hsz hH hn hs hN hNf hOb hOv hzc hRt hRs
  go_enter Try.func80, Try.ntmps80
  go_wp2_with (first
    | (at_builtin; refine Lib.wpList_append_run _ rfl _ _ _ _ rfl _ _ rfl rfl _ _ (hrz _) ?_)
    | (at_builtin; refine wpList_copy_runI _ rfl _ _ 25 25 rfl _ _ rfl rfl (hcpA _ hE1 hE2 _ _) ?_)
    | (at_builtin; refine wpList_copy_runI _ rfl _ _ 25 25 rfl _ _ rfl rfl (hcpB _ (fun _ => rfl) (fun _ => rfl) _ _ _) ?_))
  have hF1 : ∀ y, (((w.alloc (.cells ROW 52)).drew.setCells w.heap.size (i * 2) [Value.int .i64 x.f0, .int .i64 x.f1]).drew).cell? y = ((w.drew.alloc (.cells ROW 52)).setCells w.heap.size (i * 2) [Value.int .i64 x.f0, .int .i64 x.f1]).cell? y := fun y => rfl
  have hF2 : ∀ y, (((w.alloc (.cells ROW 52)).drew.setCells w.heap.size (i * 2) [Value.int .i64 x.f0, .int .i64 x.f1]).drew).frozen? y = ((w.drew.alloc (.cells ROW 52)).setCells w.heap.size (i * 2) [Value.int .i64 x.f0, .int .i64 x.f1]).frozen? y := fun y => rfl
  go_region_law_o (refine step_copy_runI rfl _ _ 25 25 rfl (.slice (some ⟨w.heap.size, (i + 1) * 2, none⟩) (n - i) (G - (i + 1))) (.slice (some ⟨g, i * 2, none⟩) (n - i) (n - i)) (by simp [Act.eval, Act.put]) (by simp [Act.eval, Act.put]) (hcpB _ hF1 hF2 3 (G - (i + 1)) (n - i)) ?_)
  go_wp2
  go_ret
  exact ⟨G, ROW, hGn, hG63, RS.out, RT.out, rfl, rfl⟩
theorem below_setCells {B g : Nat} {a : World} (hg : B ≤ g) : ∀ (vs : List Value) (o : Nat) (w : World), Below B a w → Below B a (w.setCells g o vs)
  | [], _, _, h => h
  | v :: vs, o, w, h => below_setCells hg vs (o + 1) _ (h.setCell hg v)
theorem put_one {cur cur1 cur2 : List Value} {l : List S52} {x : S52} {i : Nat} (hi : i ≤ l.length) (hc : l.length * 2 + 2 ≤ cur.length) (h0 : cur.take (i * 2) = chF (l.take i))
    (h1 : cur1 = cur.take ((i + 1) * 2) ++ chF (l.drop i) ++ cur.drop ((i + 1) * 2 + (chF (l.drop i)).length)) (h2 : cur2 = cur1.take (i * 2) ++ [Value.int .i64 x.f0, .int .i64 x.f1] ++ cur1.drop (i * 2 + 2)) :
    cur2.take ((l.length + 1) * 2) = chF (l.take i ++ [x] ++ l.drop i) := by
  have e1 : cur1.take (i * 2) = chF (l.take i) := by
    rw [h1, List.append_assoc, List.take_append_of_le_length (by rw [List.length_take]; omega), List.take_take, Nat.min_eq_left (by omega), h0]
  have e2 : cur1.drop (i * 2 + 2) = chF (l.drop i) ++ cur.drop ((i + 1) * 2 + (chF (l.drop i)).length) := by
    rw [h1, List.append_assoc, List.drop_left' (by rw [List.length_take]; omega)]
  rw [h2, e1, e2, chF_append, chF_append]
  have hl : (chF (l.take i) ++ chF [x] ++ chF (l.drop i)).length = (l.length + 1) * 2 := by
    rw [List.length_append, List.length_append, chF_len, chF_len, chF_len, List.length_take, List.length_drop, List.length_singleton]
    omega
  rw [← List.append_assoc]
  exact List.take_left' hl
theorem put_two {cur cur1 cur2 : List Value} {l : List S52} {x : S52} {i : Nat} (hi : i ≤ l.length) (hc : l.length * 2 + 2 ≤ cur.length) (h0 : cur.take (i * 2) = chF (l.take i))
    (h1 : cur1 = cur.take (i * 2) ++ [Value.int .i64 x.f0, .int .i64 x.f1] ++ cur.drop (i * 2 + 2)) (h2 : cur2 = cur1.take ((i + 1) * 2) ++ chF (l.drop i) ++ cur1.drop ((i + 1) * 2 + (chF (l.drop i)).length)) :
    cur2.take ((l.length + 1) * 2) = chF (l.take i ++ [x] ++ l.drop i) := by
  have e1 : cur1.take ((i + 1) * 2) = chF (l.take i) ++ [Value.int .i64 x.f0, .int .i64 x.f1] := by
    rw [h1, h0]
    exact List.take_left' (by rw [List.length_append, chF_len, List.length_take]; simp; omega)
  rw [h2, e1, chF_append, chF_append]
  have hl : (chF (l.take i) ++ chF [x] ++ chF (l.drop i)).length = (l.length + 1) * 2 := by
    rw [List.length_append, List.length_append, chF_len, chF_len, chF_len, List.length_take, List.length_drop, List.length_singleton]
    omega
  exact List.take_left' hl
set_option maxHeartbeats 1000000 in
set_option maxRecDepth 100000 in
theorem insert_any (base vb vc i : Nat) (v : Value) (l : List S52) (x : S52) (w0 W : World) (hB : Below base w0 W) (hR : Kd.R k52 52 W base (fun k => k ≠ vb) v l)
    (hv : W.heap[vb]? = some (.cells #[.int .i64 x.f0, .int .i64 x.f1] 52 (0, 0))) (hi : i ≤ l.length) (hl : l.length ≤ 1000000) (hbase : base ≤ W.heap.size) :
    Calls Try.prog 80 #[v, .int .i64 i, .slice (some ⟨vb, 0, none⟩) 1 vc] W fun e w' =>
      ∃ v' : Value, e = .returned v' ∧ Kd.R k52 52 w' base (fun _ => True) v' (l.take i ++ [x] ++ l.drop i) ∧ Below base w0 w' := by
  by_cases hlt : i < l.length
  · obtain ⟨g, cap, rfl, hbg, hgl, _⟩ := Kd.R_form hR (by omega)
    obtain ⟨cur, hb, hs, hm, hH⟩ := chord_block hR (by omega)
    have hne : vb ≠ g := fun h => hR.1 g rfl h.symm
    have hcap : l.length ≤ cap := (Kd.R_reads' hR).2.1
    by_cases hroom : l.length + 1 ≤ cap
    · refine (insert_shift g cap i vb vc l x W cur hb hs hH hv hlt hroom (by unfold maxLen at hm; omega) hne).mono ?_
      rintro e w' ⟨rfl, rfl⟩
      obtain ⟨c1, a1, a2, a3⟩ := setCells_row (chF (l.drop i)) ((i + 1) * 2) W.drew cur hb (by rw [chF_len, List.length_drop]; omega)
      obtain ⟨c2, b1, b2, b3⟩ := setCells_row [Value.int .i64 x.f0, .int .i64 x.f1] (i * 2) _ c1 a1 (by simp; omega)
      refine ⟨_, rfl, chord_leave2 b1 hbg (by omega) hm (by simp; omega) hroom trivial ?_, below_setCells hbg _ _ _ (below_setCells hbg _ _ _ hB.drew)⟩
      exact put_one (cur := cur.toList) hi (by have := cur.length_toList; omega) (by
        have := congrArg (List.take (i * 2)) hH
        rw [List.take_take, Nat.min_eq_left (by omega), chF_take] at this
        exact this) a3 b3
    · obtain rfl : cap = l.length := by omega
      refine (insert_grow g i vb vc l x W cur hb hs hH hv hlt hl).mono ?_
      rintro e w' ⟨G, ROW, h1, h2, h3, h4, rfl, rfl⟩
      have hb0 : (W.alloc (.cells ROW 52)).drew.heap[W.heap.size]? = some (.cells ROW 52 (0, 0)) := (MapKept.heap_alloc W _).1
      obtain ⟨c1, a1, a2, a3⟩ := setCells_row [Value.int .i64 x.f0, .int .i64 x.f1] (i * 2) _ ROW hb0 (by simp; omega)
      obtain ⟨c2, b1, b2, b3⟩ := setCells_row (chF (l.drop i)) ((i + 1) * 2) (((W.alloc (.cells ROW 52)).drew.setCells W.heap.size (i * 2) [Value.int .i64 x.f0, .int .i64 x.f1]).drew) c1 a1 (by rw [chF_len, List.length_drop]; omega)
      refine ⟨_, rfl, chord_leave2 b1 hbase (by omega) h2 (by simp; omega) h1 trivial ?_, below_setCells hbase _ _ _ (below_setCells hbase _ _ _ ((hB.alloc hbase _).drew)).drew⟩
      exact put_two (cur := ROW.toList) hi (by have := ROW.length_toList; omega) h4 a3 b3
  · obtain rfl : i = l.length := by omega
    rw [List.take_length, List.drop_length, List.append_nil]
    have HR := Aside0.mk (Kd.R_mono hR (ok' := fun _ => True) (fun _ _ => trivial))
    have HB := Aside0.mk hB
    have HX := Aside0.mk hbase
    have HV : Kd.C k52 W (some ⟨vb, 0, none⟩) 1 [x] := by
      refine ⟨rfl, by omega, fun _ => ⟨_, rfl, fun j p hj => ?_⟩⟩
      have hj0 : j = 0 := by
        have := (List.getElem?_eq_some_iff.1 hj).1
        simpa using this
      subst hj0
      simp at hj
      subst hj
      refine ⟨_, rfl, k52_mk W x, fun t u hu => ?_⟩
      rw [Addr.add_lit, Nat.zero_add]
      simpa [World.cell?, hv] using hu
    have HVV := Aside0.mk HV
    have hform : (v = .slice none 0 0 ∧ l = []) ∨ ∃ g cap, v = .slice (some ⟨g, 0, none⟩) l.length cap ∧ l.length ≤ cap := by
      obtain ⟨_, inner, hown, _⟩ := hR
      rcases hown.2 with ⟨e0, e1⟩ | ⟨g, cap, cur, e0, _, _, h3, _, _, _⟩
      · exact .inl ⟨e0, List.eq_nil_of_length_eq_zero e1⟩
      · exact .inr ⟨g, cap, e0, h3⟩
    clear hR hB hv HV hbase hi hlt
    rcases hform with ⟨rfl, rfl⟩ | ⟨g, c, rfl, hlc⟩
    · rw [List.length_nil]
      go_enter Try.func80, Try.ntmps80
      go_wp2_with ((with_reducible refine gate_builtin (b := .append) (xs := #[.tmp 23, .tmp 24]) rfl ?_); at_builtin; refine Kd.R_append_rows k52 (w0 := w0) base rfl (.tmp 23) (.tmp 24) 25 52 (.agg #[(.int .i64 0), (.int .i64 0)]) 16 rfl Try.underlying25 info52 rfl (by decide) (by omega) (.slice none 0 0) [] [x] _ _ _ (fun _ => True) (fun _ => False) rfl rfl HR.out HVV.out (fun _ _ h => h) (fun _ h => h.elim) (fun _ _ => trivial) HB.out HX.out (by simp) ?_; intro v1 w1 ho hb hg hat; have n0_ := Aside0.mk hb; have n1_ := Aside0.mk ho; clear ho hb hg hat)
      go_ret
      exact ⟨_, rfl, n1_.out, n0_.out⟩
    · obtain ⟨n, hn⟩ : ∃ n, n = l.length := ⟨_, rfl⟩
      rw [← hn] at hlc hl ⊢
      rw [← hn] at HR
      have HN := Aside0.mk hn
      clear hn
      by_cases hcn : c = n
      all_goals
        go_enter Try.func80, Try.ntmps80
        go_wp2_with ((with_reducible refine gate_builtin (b := .append) (xs := #[.tmp 23, .tmp 24]) rfl ?_); at_builtin; refine Kd.R_append_rows k52 (w0 := w0) base rfl (.tmp 23) (.tmp 24) 25 52 (.agg #[(.int .i64 0), (.int .i64 0)]) 16 rfl Try.underlying25 info52 rfl (by decide) (by omega) (.slice (some ⟨g, 0, none⟩) n c) l [x] _ _ _ (fun _ => True) (fun _ => False) rfl rfl HR.out HVV.out (fun _ _ h => h) (fun _ h => h.elim) (fun _ _ => trivial) HB.out HX.out (by have := HN.out; omega) ?_; intro v1 w1 ho hb hg hat; have n0_ := Aside0.mk hb; have n1_ := Aside0.mk ho; clear ho hb hg hat)
        go_ret
        exact ⟨_, rfl, n1_.out, n0_.out⟩
end
def impl_AddChord.f (k : Nat) (a0 : Int) (l1 : List S52) (a2_0 a2_1 : Int) : Option (List S52 × Bool) :=
  (impl_isSet.f k a0 l1).bind fun s => (impl_isChord.f a0 a2_0 a2_1).bind fun i => if l1.length ≤ 1000000000 then (if l1.length ≤ 1000000 then (if s = true then (if i = true then (if bsHit l1 a2_0 a2_1 = true then some ([], false) else if l1.length = 40 then some ([], false) else some (l1.take (bsOf l1 a2_0 a2_1) ++ [⟨a2_0, a2_1⟩] ++ l1.drop (bsOf l1 a2_0 a2_1), true)) else some ([], false)) else some ([], false))
    else (if s = true then none else some ([], false))) else none
theorem impl_AddChord.mono : ∀ a0 a1 a2 a3 k, LeO (impl_AddChord.f k a0 a1 a2 a3) (impl_AddChord.f (k + 1) a0 a1 a2 a3) := by
  intro a0 a1 a2 a3 k
  unfold impl_AddChord.f
  exact LeO.bind (impl_isSet.mono _ _ _) (fun _ => LeO.refl _)
set_option maxHeartbeats 1000000 in
set_option maxRecDepth 100000 in
theorem addChord_walk (k : Nat) (a0 : Int) (A1 : Option Addr) (cap1 : Nat) (l1 : List S52) (c0 c1 : Int) (r1 : List S52) (r2 s i : Bool) (w : World) (hr1 : Kd.C k52 w A1 l1.length l1) (hc1 : l1.length ≤ cap1) (hl : l1.length ≤ 1000000000)
    (HS : Aside0 (impl_isSet.f k a0 l1 = some s)) (HI : Aside0 (impl_isChord.f a0 c0 c1 = some i))
    (HR : Aside0 ((if l1.length ≤ 1000000 then (if s = true then (if i = true then (if bsHit l1 c0 c1 = true then some ([], false) else if l1.length = 40 then some ([], false) else some (l1.take (bsOf l1 c0 c1) ++ [⟨c0, c1⟩] ++ l1.drop (bsOf l1 c0 c1), true)) else some ([], false)) else some ([], false)) else (if s = true then none else some ([], false)) : Option (List S52 × Bool)) = some (r1, r2))) :
    Calls Try.prog 48 #[.int .i64 a0, .slice A1 l1.length cap1, .agg #[.int .i64 c0, .int .i64 c1]] w fun e w' => ∃ v0_ : Value, e = .returned (.tuple #[v0_, .bool r2]) ∧ Kd.R k52 52 w' w.heap.size (fun _ => True) v0_ r1 ∧ Below w.heap.size w w' := by
  have HC := Aside0.mk hr1
  have HCAP := Aside0.mk hc1
  have HL := Aside0.mk hl
  obtain ⟨I, hI⟩ : ∃ I : Nat, I = bsOf l1 c0 c1 := ⟨_, rfl⟩
  obtain ⟨F, hF⟩ : ∃ F : Bool, F = bsHit l1 c0 c1 := ⟨_, rfl⟩
  have hIle : I ≤ l1.length := by rw [hI]; exact bsL_le _ _ _ _ (Nat.zero_le _)
  have HBS := Aside0.mk (fun (W : World) (hB : Below w.heap.size w W) => (by rw [hI, hF]; exact bsearch_walk A1 cap1 l1 c0 c1 W (Kd.C_below HC.out hB) HCAP.out HL.out : Calls Try.prog 79 #[.slice A1 l1.length cap1, .agg #[.int .i64 c0, .int .i64 c1], .func (.func 54) #[] #[]] W fun e w' =>
      e = .returned (.tuple #[.int .i64 (I : Nat), .bool F]) ∧ Below W.heap.size W w'))
  rw [← hI, ← hF] at HR
  have HIL := Aside0.mk hIle
  clear hI hF hIle hr1 hc1 hl
  go_enter Try.func48, Try.ntmps48
  have B0 := Aside0.mk (below_alloc (Below.refl w.heap.size w) (.cells #[.int .i64 c0, .int .i64 c1] 52))
  have X0 := Aside0.mk (show (w.alloc (.cells #[.int .i64 c0, .int .i64 c1] 52)).heap[w.heap.size]? = some (.cells #[.int .i64 c0, .int .i64 c1] 52 (0, 0)) from (MapKept.heap_alloc w _).1)
  go_wp2_with fail
  refine (HBS.out _ B0.out).mono ?_
  rintro e w1 ⟨rfl, hb⟩
  have B1 := Aside0.mk (below_step B0.out hb)
  have X1 := Aside0.mk (blk_below X0.out hb)
  clear hb X0 B0 HBS
  go_wp2_with fail
  refine (impl_isSet.calls k a0 A1 cap1 l1 s w1 (Kd.C_below HC.out B1.out) HCAP.out HS.out).mono ?_
  rintro e w2 ⟨rfl, hb⟩
  have B2 := Aside0.mk (below_step B1.out hb)
  have X2 := Aside0.mk (blk_below X1.out hb)
  clear hb X1 B1
  cases s with
  | false =>
    have hR := HR.out
    simp only [Bool.false_eq_true, if_false, ite_self] at hR
    injection hR with hR
    injection hR with e1 e2
    subst e1; subst e2
    go_wp2_with fail
    go_ret2
    exact ⟨_, rfl, Kd.R_nil _ _ _ _ _, B2.out⟩
  | true =>
    have hR := HR.out
    by_cases hlen : l1.length ≤ 1000000
    · rw [if_pos hlen] at hR
      simp only [if_true] at hR
      have HRR := Aside0.mk hR
      have HLEN := Aside0.mk hlen
      clear hR hlen HR HS
      have b0 : w2.cell? ⟨w.heap.size, 0, none⟩ = some (.int .i64 c0) := (blk_cell X2.out 0).trans rfl
      have b1 : w2.cell? ⟨w.heap.size, 1, none⟩ = some (.int .i64 c1) := (blk_cell X2.out 1).trans rfl
      go_wp2_with fail
      clear b0 b1
      refine (impl_isChord.calls a0 c0 c1 i w2 HI.out).mono ?_
      rintro e w3 ⟨rfl, hb⟩
      have B3 := Aside0.mk (below_step B2.out hb)
      have X3 := Aside0.mk (blk_below X2.out hb)
      clear hb X2 B2 HI
      cases i with
      | false =>
        have hR := HRR.out
        simp only [Bool.false_eq_true, if_false] at hR
        injection hR with hR
        injection hR with e1 e2
        subst e1; subst e2
        go_wp2_with fail
        go_ret2
        exact ⟨_, rfl, Kd.R_nil _ _ _ _ _, B3.out⟩
      | true =>
        have hR := HRR.out
        simp only [if_true] at hR
        clear HRR
        cases F with
        | true =>
          simp only [if_true] at hR
          injection hR with hR
          injection hR with e1 e2
          subst e1; subst e2
          go_wp2_with fail
          go_ret2
          exact ⟨_, rfl, Kd.R_nil _ _ _ _ _, B3.out⟩
        | false =>
          simp only [Bool.false_eq_true, if_false] at hR
          by_cases h40 : l1.length = 40
          · rw [if_pos h40] at hR
            injection hR with hR
            injection hR with e1 e2
            subst e1; subst e2
            have hd : decide ((l1.length : Int) = 40) = true := decide_eq_true (by omega)
            have HD := Aside0.mk hd
            have hdb : ((l1.length : Int) == 40) = true := by simp [h40]
            clear h40 hd
            go_wp2_with fail
            go_ret2
            exact ⟨_, rfl, Kd.R_nil _ _ _ _ _, B3.out⟩
          · rw [if_neg h40] at hR
            injection hR with hR
            injection hR with e1 e2
            subst e1; subst e2
            have hdb : ((l1.length : Int) == 40) = false := by
              have : ¬ (l1.length : Int) = 40 := by omega
              simpa using this
            clear h40
            have b0 : w3.cell? ⟨w.heap.size, 0, none⟩ = some (.int .i64 c0) := (blk_cell X3.out 0).trans rfl
            have b1 : w3.cell? ⟨w.heap.size, 1, none⟩ = some (.int .i64 c1) := (blk_cell X3.out 1).trans rfl
            go_wp2_with fail
            have HCL := Aside0.mk (fun (W : World) (hB : Below w.heap.size w W) => impl_Chord_61.calls A1 cap1 l1 l1 W (Kd.C_below HC.out hB) HCAP.out (by have := HLEN.out; unfold impl_Chord_61.f; rw [if_pos (by omega)]))
            have HS0 := Aside0.mk (below_size B3.out)
            have mixed : Try.prog.follows Departure.mixedOrders = true := by kernel_rfl
            go_region_with_o (first
              | (go_at_call 61; refine (HCL.out _ ?hb).mono ?_; (case hb => first | exact below_drew1 B3.out | exact below_drew1 (below_alloc B3.out _)); rintro e w4 ⟨v, rfl, hR4, hb4⟩; have X4 := blk_below (by first | exact blk_drew X3.out | exact blk_drew (blk_alloc X3.out _)) hb4; have b0 : w4.cell? ⟨w.heap.size, 0, none⟩ = some (.int .i64 c0) := (blk_cell X4 0).trans rfl; have b1 : w4.cell? ⟨w.heap.size, 1, none⟩ = some (.int .i64 c1) := (blk_cell X4 1).trans rfl; have R4 := Aside0.mk hR4; have H4 := Aside0.mk hb4; clear hR4 hb4 X4)
              | (go_at_call 80; refine (insert_any w.heap.size _ 1 I v l1 ⟨c0, c1⟩ w _ ?hb ?hr ?hv HIL.out HLEN.out ?hs).mono ?_; (case hb => first | exact below_alloc (below_step (below_drew1 B3.out) H4.out) _ | exact below_step (below_drew1 (below_alloc B3.out _)) H4.out); (case hs => first | exact below_size (below_alloc (below_step (below_drew1 B3.out) H4.out) _) | exact below_size (below_step (below_drew1 (below_alloc B3.out _)) H4.out)); (case hv => first | exact (MapKept.heap_alloc w4 _).1 | exact blk_below (blk_drew (MapKept.heap_alloc w3 _).1) H4.out); (case hr => first | exact Kd.R_lower (Kd.R_alloc (Kd.R_mono (Kd.R_bound R4.out) (fun k hk => Nat.ne_of_lt hk.2.2.1)) _) HS0.out | exact Kd.R_lower (Kd.R_mono (Kd.R_bound R4.out) (fun k hk => by have := hk.2.1; simp at this; omega)) (by have := HS0.out; simp; omega)); rintro e w5 ⟨v5, rfl, hR5, hB5⟩; have R5 := Aside0.mk hR5; have B5 := Aside0.mk hB5; clear hR5 hB5))
            all_goals
              go_wp2_with fail
              go_ret2
              exact ⟨_, rfl, R5.out, B5.out⟩
    · rw [if_neg hlen] at hR
      simp at hR
theorem impl_AddChord.calls (k : Nat) (a0 : Int) (A1 : Option Addr) (c1 : Nat) (l1 : List S52) (a2_0 a2_1 : Int) (r1 : List S52) (r2 : Bool) (w : World) (hr1 : Kd.C k52 w A1 l1.length l1) (hc1 : l1.length ≤ c1) (h : impl_AddChord.f k a0 l1 a2_0 a2_1 = some (r1, r2)) :
    Calls Try.prog 48 #[.int .i64 a0, .slice A1 l1.length c1, .agg #[.int .i64 a2_0, .int .i64 a2_1]] w fun e w' => ∃ v0_ : Value, e = .returned (.tuple #[v0_, .bool r2]) ∧ Kd.R k52 52 w' w.heap.size (fun _ => True) v0_ r1 ∧ Below w.heap.size w w' := by
  unfold impl_AddChord.f at h
  obtain ⟨s, hs, h2⟩ := Option.bind_eq_some_iff.mp h
  obtain ⟨i, hi, h3⟩ := Option.bind_eq_some_iff.mp h2
  split at h3
  · rename_i hl
    exact addChord_walk k a0 A1 c1 l1 a2_0 a2_1 r1 r2 s i w hr1 hc1 hl ⟨hs⟩ ⟨hi⟩ ⟨h3⟩
  · cases h3

/-! ### laws_FnExactAddChord: function 13 -/
mutual
def laws_FnExactAddChord.j0 : Nat → Int → List (S50) → List (S52) → Bool → List (S52) → List (S52) → Bool → Bool → Int → Int → Option (Bool)
  | 0, _, _, _, _, _, _, _, _, _, _ => none
  | k + 1, x0, x1, x8, x9, x10, x11, x12, x50, x630000, x630001 => if x50 = true then (some false) else ((laws_toChordS.f k x1).bind fun t650 => ((laws_eqChordS.f k x10 t650).bind fun t653 => (if t653 = true then ((laws_markChordS.f k x10 1).bind fun bt654 => (if bt654.1 < 0 then (laws_FnExactAddChord.j1 k x0 x1 x8 x9 x11 true x630000 x630001) else ((laws_eqChordS.f k x11 x8).bind fun t656 => (if t656 = true then (laws_FnExactAddChord.j1 k x0 x1 x8 x9 x11 (x12 != x9) x630000 x630001) else (laws_FnExactAddChord.j1 k x0 x1 x8 x9 x11 true x630000 x630001))))) else (some false))))
def laws_FnExactAddChord.j1 : Nat → Int → List (S50) → List (S52) → Bool → List (S52) → Bool → Int → Int → Option (Bool)
  | 0, _, _, _, _, _, _, _, _ => none
  | k + 1, x0, x1, x8, x9, x11, x71, x630000, x630001 => if x71 = true then (some false) else ((laws_markChordS.f k x11 1).bind fun bt657 => ((laws_heldChordS.f k bt657.2 1).bind fun t659 => (if t659 < 0 then (some false) else (if t659 = bt657.1 then ((laws_toChordS.f k x1).bind fun t660 => ((laws_toChord.f x630000 x630001).bind fun bt663 => ((impl_AddChord.f k x0 t660 bt663.1 bt663.2).bind fun bt665 => ((laws_eqChordS.f k bt665.1 x8).bind fun t669 => (if t669 = true then (laws_FnExactAddChord.j2 k bt657.2 bt657.1 (bt665.2 != x9)) else (laws_FnExactAddChord.j2 k bt657.2 bt657.1 true)))))) else (some false)))))
def laws_FnExactAddChord.j2 : Nat → List (S52) → Int → Bool → Option (Bool)
  | 0, _, _, _ => none
  | k + 1, x11, x14, x100 => if x100 = true then (some false) else ((laws_heldChordS.f k x11 1).bind fun t670 => (if t670 < 0 then (some false) else (if t670 = x14 then (some true) else (some false))))
end
def laws_FnExactAddChord.f (k : Nat) (a0 : Int) (l1 : List (S50)) (a2_0 : Int) (a2_1 : Int) : Option (Bool) := (laws_szChordS.f l1 1048576).bind fun t630 => (if t630 < 0 then (some true) else ((laws_toChordS.f k l1).bind fun t631 => ((laws_toChord.f a2_0 a2_1).bind fun bt634 => ((spec_AddChord.f k a0 t631 bt634.1 bt634.2).bind fun bt636 => ((laws_toChordS.f k l1).bind fun t640 => ((laws_toChord.f a2_0 a2_1).bind fun bt643 => ((impl_AddChord.f k a0 t640 bt643.1 bt643.2).bind fun bt645 => ((laws_eqChordS.f k bt645.1 bt636.1).bind fun t649 => (if t649 = true then (laws_FnExactAddChord.j0 k a0 l1 bt636.1 bt636.2 t640 bt645.1 bt645.2 (bt645.2 != bt636.2) a2_0 a2_1) else (laws_FnExactAddChord.j0 k a0 l1 bt636.1 bt636.2 t640 bt645.1 bt645.2 true a2_0 a2_1))))))))))
theorem laws_FnExactAddChord.mono_l : ∀ k, (∀ y0 y1 y2 y3 y4 y5 y6 y7 y8 y9, LeO (laws_FnExactAddChord.j0 k y0 y1 y2 y3 y4 y5 y6 y7 y8 y9) (laws_FnExactAddChord.j0 (k + 1) y0 y1 y2 y3 y4 y5 y6 y7 y8 y9)) ∧ (∀ y0 y1 y2 y3 y4 y5 y6 y7, LeO (laws_FnExactAddChord.j1 k y0 y1 y2 y3 y4 y5 y6 y7) (laws_FnExactAddChord.j1 (k + 1) y0 y1 y2 y3 y4 y5 y6 y7)) ∧ (∀ y0 y1 y2, LeO (laws_FnExactAddChord.j2 k y0 y1 y2) (laws_FnExactAddChord.j2 (k + 1) y0 y1 y2))
  | 0 => ⟨fun _ _ _ _ _ _ _ _ _ _ r h => by simp [laws_FnExactAddChord.j0] at h, fun _ _ _ _ _ _ _ _ r h => by simp [laws_FnExactAddChord.j1] at h, fun _ _ _ r h => by simp [laws_FnExactAddChord.j2] at h⟩
  | k + 1 => by
    obtain ⟨ih0, ih1, ih2⟩ := laws_FnExactAddChord.mono_l k
    refine ⟨?_, ?_, ?_⟩
    · intro y0 y1 y2 y3 y4 y5 y6 y7 y8 y9
      unfold laws_FnExactAddChord.j0
      repeat' first
      | (with_reducible exact ih0 _ _ _ _ _ _ _ _ _ _)
      | (with_reducible exact ih1 _ _ _ _ _ _ _ _)
      | (with_reducible exact ih2 _ _ _)
      | (with_reducible exact impl_AddChord.mono _ _ _ _ _)
      | (with_reducible exact laws_eqChordS.mono _ _ _)
      | (with_reducible exact laws_heldChordS.mono _ _ _)
      | (with_reducible exact laws_markChordS.mono _ _ _)
      | (with_reducible exact laws_toChordS.mono _ _)
      | (with_reducible exact spec_AddChord.mono _ _ _ _ _)
      | (with_reducible exact LeO.refl _)
      | (with_reducible exact LeO.none _)
      | (with_reducible refine LeO.ite ?_ ?_)
      | (with_reducible refine LeO.bind ?_ (fun _ => ?_))
      | exact ih0 _ _ _ _ _ _ _ _ _ _
      | exact ih1 _ _ _ _ _ _ _ _
      | exact ih2 _ _ _
      | exact impl_AddChord.mono _ _ _ _ _
      | exact laws_eqChordS.mono _ _ _
      | exact laws_heldChordS.mono _ _ _
      | exact laws_markChordS.mono _ _ _
      | exact laws_toChordS.mono _ _
      | exact spec_AddChord.mono _ _ _ _ _
      | exact LeO.none _
      | refine LeO.ite ?_ ?_
      | refine LeO.bind ?_ (fun _ => ?_)
    · intro y0 y1 y2 y3 y4 y5 y6 y7
      unfold laws_FnExactAddChord.j1
      repeat' first
      | (with_reducible exact ih0 _ _ _ _ _ _ _ _ _ _)
      | (with_reducible exact ih1 _ _ _ _ _ _ _ _)
      | (with_reducible exact ih2 _ _ _)
      | (with_reducible exact impl_AddChord.mono _ _ _ _ _)
      | (with_reducible exact laws_eqChordS.mono _ _ _)
      | (with_reducible exact laws_heldChordS.mono _ _ _)
      | (with_reducible exact laws_markChordS.mono _ _ _)
      | (with_reducible exact laws_toChordS.mono _ _)
      | (with_reducible exact spec_AddChord.mono _ _ _ _ _)
      | (with_reducible exact LeO.refl _)
      | (with_reducible exact LeO.none _)
      | (with_reducible refine LeO.ite ?_ ?_)
      | (with_reducible refine LeO.bind ?_ (fun _ => ?_))
      | exact ih0 _ _ _ _ _ _ _ _ _ _
      | exact ih1 _ _ _ _ _ _ _ _
      | exact ih2 _ _ _
      | exact impl_AddChord.mono _ _ _ _ _
      | exact laws_eqChordS.mono _ _ _
      | exact laws_heldChordS.mono _ _ _
      | exact laws_markChordS.mono _ _ _
      | exact laws_toChordS.mono _ _
      | exact spec_AddChord.mono _ _ _ _ _
      | exact LeO.none _
      | refine LeO.ite ?_ ?_
      | refine LeO.bind ?_ (fun _ => ?_)
    · intro y0 y1 y2
      unfold laws_FnExactAddChord.j2
      repeat' first
      | (with_reducible exact ih0 _ _ _ _ _ _ _ _ _ _)
      | (with_reducible exact ih1 _ _ _ _ _ _ _ _)
      | (with_reducible exact ih2 _ _ _)
      | (with_reducible exact impl_AddChord.mono _ _ _ _ _)
      | (with_reducible exact laws_eqChordS.mono _ _ _)
      | (with_reducible exact laws_heldChordS.mono _ _ _)
      | (with_reducible exact laws_markChordS.mono _ _ _)
      | (with_reducible exact laws_toChordS.mono _ _)
      | (with_reducible exact spec_AddChord.mono _ _ _ _ _)
      | (with_reducible exact LeO.refl _)
      | (with_reducible exact LeO.none _)
      | (with_reducible refine LeO.ite ?_ ?_)
      | (with_reducible refine LeO.bind ?_ (fun _ => ?_))
      | exact ih0 _ _ _ _ _ _ _ _ _ _
      | exact ih1 _ _ _ _ _ _ _ _
      | exact ih2 _ _ _
      | exact impl_AddChord.mono _ _ _ _ _
      | exact laws_eqChordS.mono _ _ _
      | exact laws_heldChordS.mono _ _ _
      | exact laws_markChordS.mono _ _ _
      | exact laws_toChordS.mono _ _
      | exact spec_AddChord.mono _ _ _ _ _
      | exact LeO.none _
      | refine LeO.ite ?_ ?_
      | refine LeO.bind ?_ (fun _ => ?_)
theorem laws_FnExactAddChord.mono : ∀ a0 a1 a2 a3 k, LeO (laws_FnExactAddChord.f k a0 a1 a2 a3) (laws_FnExactAddChord.f (k + 1) a0 a1 a2 a3) := by
  intro a0 a1 a2 a3 k
  obtain ⟨ih0, ih1, ih2⟩ := laws_FnExactAddChord.mono_l k
  unfold laws_FnExactAddChord.f
  repeat' first
      | (with_reducible exact ih0 _ _ _ _ _ _ _ _ _ _)
      | (with_reducible exact ih1 _ _ _ _ _ _ _ _)
      | (with_reducible exact ih2 _ _ _)
      | (with_reducible exact impl_AddChord.mono _ _ _ _ _)
      | (with_reducible exact laws_eqChordS.mono _ _ _)
      | (with_reducible exact laws_heldChordS.mono _ _ _)
      | (with_reducible exact laws_markChordS.mono _ _ _)
      | (with_reducible exact laws_toChordS.mono _ _)
      | (with_reducible exact spec_AddChord.mono _ _ _ _ _)
      | (with_reducible exact LeO.refl _)
      | (with_reducible exact LeO.none _)
      | (with_reducible refine LeO.ite ?_ ?_)
      | (with_reducible refine LeO.bind ?_ (fun _ => ?_))
      | exact ih0 _ _ _ _ _ _ _ _ _ _
      | exact ih1 _ _ _ _ _ _ _ _
      | exact ih2 _ _ _
      | exact impl_AddChord.mono _ _ _ _ _
      | exact laws_eqChordS.mono _ _ _
      | exact laws_heldChordS.mono _ _ _
      | exact laws_markChordS.mono _ _ _
      | exact laws_toChordS.mono _ _
      | exact spec_AddChord.mono _ _ _ _ _
      | exact LeO.none _
      | refine LeO.ite ?_ ?_
      | refine LeO.bind ?_ (fun _ => ?_)
def laws_FnExactAddChord.T5 : Bool × List (List Nat × List Nat) := (true, [([], []), ([], []), ([1], [1]), ([], []), ([3, 2], [3]), ([0, 2, 4, 4], [0, 2, 4]), ([5], [5]), ([6], [6]), ([6], [6]), ([7, 5, 0, 1, 2, 3, 4, 5, 6, 7], [7]), ([8, 9, 0, 1, 2, 3, 4, 5, 6, 7, 8, 9], [8])])
def laws_FnExactAddChord.B5 : List Nat := [0, 0, 2, 0, 14, 31, 63, 127, 127, 255, 1023]
theorem laws_FnExactAddChord.tab5 : rtab .any (opsOf Try.f13 5) = laws_FnExactAddChord.T5 := by kernel_rfl
theorem laws_FnExactAddChord.bits5 : waitsOk laws_FnExactAddChord.T5.2 laws_FnExactAddChord.B5 = true := by kernel_rfl
def laws_FnExactAddChord.T24 : Bool × List (List Nat × List Nat) := (true, [([], []), ([], []), ([1], [1]), ([], []), ([3, 2], [3]), ([0, 2, 4, 4], [0, 2, 4]), ([5], [5]), ([6], [6]), ([6], [6]), ([7, 5, 0, 1, 2, 3, 4, 5, 6, 7], [7]), ([8, 9, 0, 1, 2, 3, 4, 5, 6, 7, 8, 9], [8])])
def laws_FnExactAddChord.B24 : List Nat := [0, 0, 2, 0, 14, 31, 63, 127, 127, 255, 1023]
theorem laws_FnExactAddChord.tab24 : rtab .any (opsOf Try.f13 24) = laws_FnExactAddChord.T24 := by kernel_rfl
theorem laws_FnExactAddChord.bits24 : waitsOk laws_FnExactAddChord.T24.2 laws_FnExactAddChord.B24 = true := by kernel_rfl
set_option maxHeartbeats 8000000 in
set_option maxRecDepth 100000 in
theorem laws_FnExactAddChord.calls (k : Nat) (a0 : Int) (A1 : Option Addr) (c1 : Nat) (l1 : List (S50)) (a2_0 : Int) (a2_1 : Int) (r : Bool) (w : World) (hr1 : Kd.C k50 w A1 l1.length l1) (hc1 : l1.length ≤ c1) (h : laws_FnExactAddChord.f k a0 l1 a2_0 a2_1 = some r) :
    Calls Try.prog 13 #[.int .i64 a0, .slice A1 l1.length c1, .agg #[.int .i64 a2_0, .int .i64 a2_1]] w fun e w' => e = .returned (.bool r) ∧ Below w.heap.size w w' := by
  have hu50 := Try.underlying50
  have HR1 := Aside0.mk hr1
  have HC1 := Aside0.mk hc1
  clear hr1 hc1
  have HB := Aside0.mk (Below.refl w.heap.size w)
  have H : ((laws_szChordS.f l1 1048576).bind fun t630 => (if t630 < 0 then (some true) else ((laws_toChordS.f k l1).bind fun t631 => ((laws_toChord.f a2_0 a2_1).bind fun bt634 => ((spec_AddChord.f k a0 t631 bt634.1 bt634.2).bind fun bt636 => ((laws_toChordS.f k l1).bind fun t640 => ((laws_toChord.f a2_0 a2_1).bind fun bt643 => ((impl_AddChord.f k a0 t640 bt643.1 bt643.2).bind fun bt645 => ((laws_eqChordS.f k bt645.1 bt636.1).bind fun t649 => (if t649 = true then (laws_FnExactAddChord.j0 k a0 l1 bt636.1 bt636.2 t640 bt645.1 bt645.2 (bt645.2 != bt636.2) a2_0 a2_1) else (laws_FnExactAddChord.j0 k a0 l1 bt636.1 bt636.2 t640 bt645.1 bt645.2 true a2_0 a2_1))))))))))) = some r := h
  clear h
  replace H := Option.bind_eq_some_iff.mp H
  obtain ⟨t630, A40, H⟩ := H
  replace H : (if t630 < 0 then (some true) else ((laws_toChordS.f k l1).bind fun t631 => ((laws_toChord.f a2_0 a2_1).bind fun bt634 => ((spec_AddChord.f k a0 t631 bt634.1 bt634.2).bind fun bt636 => ((laws_toChordS.f k l1).bind fun t640 => ((laws_toChord.f a2_0 a2_1).bind fun bt643 => ((impl_AddChord.f k a0 t640 bt643.1 bt643.2).bind fun bt645 => ((laws_eqChordS.f k bt645.1 bt636.1).bind fun t649 => (if t649 = true then (laws_FnExactAddChord.j0 k a0 l1 bt636.1 bt636.2 t640 bt645.1 bt645.2 (bt645.2 != bt636.2) a2_0 a2_1) else (laws_FnExactAddChord.j0 k a0 l1 bt636.1 bt636.2 t640 bt645.1 bt645.2 true a2_0 a2_1)))))))))) = some r := H
  have A4 := Aside0.mk A40
  clear A40
  by_cases c5 : t630 < 0
  · rw [if_pos c5] at H
    have c5b0 : decide (t630 < 0) = true := decide_eq_true c5
    clear c5
    obtain rfl := Option.some.inj H
    go_enter Try.func13, Try.ntmps13
    go_wp2_with (first | ((with_reducible refine gate_dst (N := 5) rfl ?_); refine box_event ?hg (N := 5) ?hd (cs := #[.int .i64 a2_0, .int .i64 a2_1]) (t := 50) ?hr ?_; (case hd => rfl); (case hg => rfl); (case hr => first | (go_simp; done) | (go_simp; rfl)); intro gb629 hg w6 hbox hb; have n0_ := Aside0.mk (below_step (by repeat (first | (with_reducible first | exact HB.out | apply below_alloc | apply pw_below_drewN | apply below_drew1) | exact HB.out)) hb); have n1_ := Aside0.mk (hbox); have n2_ := Aside0.mk ((by rw [hg]; exact (below_size (by repeat (first | (with_reducible first | exact HB.out | apply below_alloc | apply pw_below_drewN | apply below_drew1) | exact HB.out))) : w.heap.size ≤ gb629)); have n3_ := Aside0.mk ((by rw [hg]; exact (below_size (by repeat (first | (with_reducible first | exact HB.out | apply below_alloc | apply pw_below_drewN | apply below_drew1) | exact HB.out))) : w.heap.size ≤ gb629)); clear HB; have HB := n0_; have BK629 := n1_; have GW629 := n2_; have GE629 := n3_; clear n0_ n1_ n2_ n3_; clear hb hbox hg) | ((with_reducible refine gate_callee (f := 15) rfl ?_); refine goesL_ (some 20) rfl rfl Try.func15 (by kernel_rfl) rfl #[.slice A1 l1.length c1, .int .i64 1048576] rfl (by (try simp only [List.map_toArray, List.map_cons, List.map_nil]); first | done | rfl | (simp only [List.length_drop, List.length_take]; rfl)) ?_; (with_reducible refine (laws_szChordS.calls _ _ l1 1048576 t630 _ ?side1 ?side2 A4.out).mono ?_); (case side1 => repeat (first | exact (Kd.C_below HR1.out HB.out) | (with_reducible refine Kd.C_alloc ?_ _) | (with_reducible refine Kd.C_drewN ?_ _) | (with_reducible refine Kd.C_drew ?_))); (case side2 => exact HC1.out); rintro e w' ⟨rfl, ⟨nd, rfl⟩⟩; refine ⟨_, rfl, ?_⟩))
    go_ret
    exact ⟨by first | rfl | (simp [errW_none, errW_some] <;> rfl) | (simp [*, errW_none, errW_some] <;> rfl), by repeat (first | (with_reducible first | exact HB.out | apply below_alloc | apply pw_below_drewN | apply below_drew1 | refine below_set ?_ GE629.out) | exact HB.out)⟩
  · rw [if_neg c5] at H
    have c5b0 : decide (t630 < 0) = false := decide_eq_false c5
    clear c5
    replace H := Option.bind_eq_some_iff.mp H
    obtain ⟨t631, A70, H⟩ := H
    replace H : ((laws_toChord.f a2_0 a2_1).bind fun bt634 => ((spec_AddChord.f k a0 t631 bt634.1 bt634.2).bind fun bt636 => ((laws_toChordS.f k l1).bind fun t640 => ((laws_toChord.f a2_0 a2_1).bind fun bt643 => ((impl_AddChord.f k a0 t640 bt643.1 bt643.2).bind fun bt645 => ((laws_eqChordS.f k bt645.1 bt636.1).bind fun t649 => (if t649 = true then (laws_FnExactAddChord.j0 k a0 l1 bt636.1 bt636.2 t640 bt645.1 bt645.2 (bt645.2 != bt636.2) a2_0 a2_1) else (laws_FnExactAddChord.j0 k a0 l1 bt636.1 bt636.2 t640 bt645.1 bt645.2 true a2_0 a2_1)))))))) = some r := H
    have A7 := Aside0.mk A70
    clear A70
    replace H := Option.bind_eq_some_iff.mp H
    obtain ⟨⟨t634, t635⟩, A80, H⟩ := H
    replace H : ((spec_AddChord.f k a0 t631 t634 t635).bind fun bt636 => ((laws_toChordS.f k l1).bind fun t640 => ((laws_toChord.f a2_0 a2_1).bind fun bt643 => ((impl_AddChord.f k a0 t640 bt643.1 bt643.2).bind fun bt645 => ((laws_eqChordS.f k bt645.1 bt636.1).bind fun t649 => (if t649 = true then (laws_FnExactAddChord.j0 k a0 l1 bt636.1 bt636.2 t640 bt645.1 bt645.2 (bt645.2 != bt636.2) a2_0 a2_1) else (laws_FnExactAddChord.j0 k a0 l1 bt636.1 bt636.2 t640 bt645.1 bt645.2 true a2_0 a2_1))))))) = some r := H
    have A8 := Aside0.mk A80
    clear A80
    replace H := Option.bind_eq_some_iff.mp H
    obtain ⟨⟨t636, t639⟩, A90, H⟩ := H
    replace H : ((laws_toChordS.f k l1).bind fun t640 => ((laws_toChord.f a2_0 a2_1).bind fun bt643 => ((impl_AddChord.f k a0 t640 bt643.1 bt643.2).bind fun bt645 => ((laws_eqChordS.f k bt645.1 t636).bind fun t649 => (if t649 = true then (laws_FnExactAddChord.j0 k a0 l1 t636 t639 t640 bt645.1 bt645.2 (bt645.2 != t639) a2_0 a2_1) else (laws_FnExactAddChord.j0 k a0 l1 t636 t639 t640 bt645.1 bt645.2 true a2_0 a2_1)))))) = some r := H
    have A9 := Aside0.mk A90
    clear A90
    replace H := Option.bind_eq_some_iff.mp H
    obtain ⟨t640, A100, H⟩ := H
    replace H : ((laws_toChord.f a2_0 a2_1).bind fun bt643 => ((impl_AddChord.f k a0 t640 bt643.1 bt643.2).bind fun bt645 => ((laws_eqChordS.f k bt645.1 t636).bind fun t649 => (if t649 = true then (laws_FnExactAddChord.j0 k a0 l1 t636 t639 t640 bt645.1 bt645.2 (bt645.2 != t639) a2_0 a2_1) else (laws_FnExactAddChord.j0 k a0 l1 t636 t639 t640 bt645.1 bt645.2 true a2_0 a2_1))))) = some r := H
    have A10 := Aside0.mk A100
    clear A100
    replace H := Option.bind_eq_some_iff.mp H
    obtain ⟨⟨t643, t644⟩, A110, H⟩ := H
    replace H : ((impl_AddChord.f k a0 t640 t643 t644).bind fun bt645 => ((laws_eqChordS.f k bt645.1 t636).bind fun t649 => (if t649 = true then (laws_FnExactAddChord.j0 k a0 l1 t636 t639 t640 bt645.1 bt645.2 (bt645.2 != t639) a2_0 a2_1) else (laws_FnExactAddChord.j0 k a0 l1 t636 t639 t640 bt645.1 bt645.2 true a2_0 a2_1)))) = some r := H
    have A11 := Aside0.mk A110
    clear A110
    replace H := Option.bind_eq_some_iff.mp H
    obtain ⟨⟨t645, t648⟩, A120, H⟩ := H
    replace H : ((laws_eqChordS.f k t645 t636).bind fun t649 => (if t649 = true then (laws_FnExactAddChord.j0 k a0 l1 t636 t639 t640 t645 t648 (t648 != t639) a2_0 a2_1) else (laws_FnExactAddChord.j0 k a0 l1 t636 t639 t640 t645 t648 true a2_0 a2_1))) = some r := H
    have A12 := Aside0.mk A120
    clear A120
    have HC13 := Aside0.mk H
    clear H
    go_enter Try.func13, Try.ntmps13
    try go_wp2_with (first | ((with_reducible refine gate_dst (N := 5) rfl ?_); refine box_event ?hg (N := 5) ?hd (cs := #[.int .i64 a2_0, .int .i64 a2_1]) (t := 50) ?hr ?_; (case hd => rfl); (case hg => rfl); (case hr => first | (go_simp; done) | (go_simp; rfl)); intro gb629 hg w14 hbox hb; have n0_ := Aside0.mk (below_step (by repeat (first | (with_reducible first | exact HB.out | apply below_alloc | apply pw_below_drewN | apply below_drew1) | exact HB.out)) hb); have n1_ := Aside0.mk (hbox); have n2_ := Aside0.mk ((by rw [hg]; exact (below_size (by repeat (first | (with_reducible first | exact HB.out | apply below_alloc | apply pw_below_drewN | apply below_drew1) | exact HB.out))) : w.heap.size ≤ gb629)); have n3_ := Aside0.mk ((by rw [hg]; exact (below_size (by repeat (first | (with_reducible first | exact HB.out | apply below_alloc | apply pw_below_drewN | apply below_drew1) | exact HB.out))) : w.heap.size ≤ gb629)); clear HB; have HB := n0_; have BK629 := n1_; have GW629 := n2_; have GE629 := n3_; clear n0_ n1_ n2_ n3_; clear hb hbox hg) | ((with_reducible refine gate_callee (f := 15) rfl ?_); refine goesL_ (some 20) rfl rfl Try.func15 (by kernel_rfl) rfl #[.slice A1 l1.length c1, .int .i64 1048576] rfl (by (try simp only [List.map_toArray, List.map_cons, List.map_nil]); first | done | rfl | (simp only [List.length_drop, List.length_take]; rfl)) ?_; (with_reducible refine (laws_szChordS.calls _ _ l1 1048576 t630 _ ?side1 ?side2 A4.out).mono ?_); (case side1 => repeat (first | exact (Kd.C_below HR1.out HB.out) | (with_reducible refine Kd.C_alloc ?_ _) | (with_reducible refine Kd.C_drewN ?_ _) | (with_reducible refine Kd.C_drew ?_))); (case side2 => exact HC1.out); rintro e w' ⟨rfl, ⟨nd, rfl⟩⟩; refine ⟨_, rfl, ?_⟩))
    (try (rw [drewN_self w14]; generalize hq_ : World.drewN w14 _ = w14; have n0_ : Aside0 (w14.heap[gb629]? = some (.cells #[.int .i64 a2_0, .int .i64 a2_1] 50 (0, 0))) := ⟨by rw [← hq_]; exact (by (with_reducible repeat (first | refine blk_drewN ?_ _ | refine blk_drew ?_ | refine blk_alloc ?_ _)); exact BK629.out)⟩; have n1_ : Aside0 (Below w.heap.size w w14) := ⟨by rw [← hq_]; exact (by repeat (first | (with_reducible first | exact HB.out | apply below_alloc | apply pw_below_drewN | apply below_drew1 | refine below_set ?_ GE629.out) | exact HB.out))⟩; clear BK629 HB hq_; have BK629 := n0_; have HB := n1_; clear n0_ n1_))
    have n0_ := Aside0.mk (blk_drew BK629.out)
    have n1_ := Aside0.mk (below_drew1 HB.out)
    clear BK629
    clear HB
    have BK629 := n0_
    have HB := n1_
    clear n0_ n1_
    refine start_ (n := 11) (S := fun w' => w'.cell? ⟨gb629, 0, none⟩ = some (.int .i64 a2_0) ∧ w'.cell? ⟨gb629, 1, none⟩ = some (.int .i64 a2_1)) (ds := []) #[false, false, false, false, false, false, false, false, false, false, false] (by kernel_rfl) rfl rfl ⟨(blk_cell BK629.out 0).trans rfl, (blk_cell BK629.out 1).trans rfl⟩ (fun hHeld => ?_); refine with_tabW laws_FnExactAddChord.tab5 laws_FnExactAddChord.bits5 (fun HT_ HW_ => ?_)
    generalize w14.drew = w15 at BK629 HB hHeld ⊢
    refine pure_ (i := 0) (N := some 24) (v := ?_) (a' := ?_) #[true, false, false, false, false, false, false, false, false, false, false] rfl rfl (any_of HT_.out (by kernel_rfl)) (fun _ _ _ h => h) (Or.inl ⟨by rfl, ?_⟩) ?_ ?_
    rotate_left
    · intro w'
      go_simp
      with_reducible rfl
    rotate_left
    · simp only [Act.put, List.setIfInBounds_toArray, List.set_cons_zero, List.set_cons_succ, i64_w, i32_w]
      rfl
    refine pure_ (i := 1) (N := some 25) (v := ?_) (a' := ?_) #[true, true, false, false, false, false, false, false, false, false, false] rfl rfl (any_of HT_.out (by kernel_rfl)) (fun _ _ _ h => h) (Or.inl ⟨by rfl, ?_⟩) ?_ ?_
    rotate_left
    · intro w'
      go_simp
      with_reducible rfl
    rotate_left
    · simp only [Act.put, List.setIfInBounds_toArray, List.set_cons_zero, List.set_cons_succ, i64_w, i32_w]
      rfl
    refine take_ (i := 3) (N := some 27) (v := ?_) (a' := ?_) #[true, true, false, true, false, false, false, false, false, false, false] rfl rfl (take_ofW HT_.out HW_.out (by kernel_rfl)) (fun _ _ _ h => h) (Or.inl ⟨by rfl, ?_⟩) hHeld ?_ ?_
    rotate_left
    · rintro w' ⟨s0, s1⟩
      go_simp
      with_reducible rfl
    rotate_left
    · simp only [Act.put, List.setIfInBounds_toArray, List.set_cons_zero, List.set_cons_succ, i64_w, i32_w]
      rfl
    refine one_ (i := 2) (N := some 26) #[true, true, true, true, false, false, false, false, false, false, false] rfl rfl (one_of HT_.out (by kernel_rfl)) (by decide) (fun K hK => ?_)
    refine goes_ Try.func17 (by kernel_rfl) rfl #[.slice A1 l1.length c1] (by rfl) rfl rfl (by (try simp only [List.map_toArray, List.map_cons, List.map_nil]); first | done | rfl | (simp only [List.length_drop, List.length_take]; rfl)) ?_
    with_reducible refine (laws_toChordS.calls k _ _ l1 t631 _ ?side1 ?side2 A7.out).mono ?_
    (case side1 => repeat (first | exact (Kd.C_below HR1.out HB.out) | (with_reducible refine Kd.C_alloc ?_ _) | (with_reducible refine Kd.C_drewN ?_ _) | (with_reducible refine Kd.C_drew ?_)))
    (case side2 => exact HC1.out)
    rintro e w16 ⟨v632, rfl, ho0, hb⟩
    refine ⟨_, rfl, ?_⟩
    have n0_ := Aside0.mk (Kd.R_lower ho0 (below_size (by repeat (first | (with_reducible first | exact HB.out | apply below_alloc | apply pw_below_drewN | apply below_drew1 | refine below_set ?_ GE629.out) | exact HB.out))))
    have n1_ := Aside0.mk (blk_below (g := gb629) (o := .cells #[.int .i64 a2_0, .int .i64 a2_1] 50 (0, 0)) (by (with_reducible repeat (first | refine blk_drewN ?_ _ | refine blk_drew ?_ | refine blk_alloc ?_ _)); exact BK629.out) hb)
    have n2_ := Aside0.mk (below_step (by repeat (first | (with_reducible first | exact HB.out | apply below_alloc | apply pw_below_drewN | apply below_drew1 | refine below_set ?_ GE629.out) | exact HB.out)) hb)
    clear BK629
    clear HB
    have HO633 := n0_
    have BK629 := n1_
    have HB := n2_
    clear n0_ n1_ n2_
    (try clear hb)
    (try clear hb2)
    (try clear hk)
    (try clear hi)
    (try clear ho0)
    refine hK.out _ _ ⟨(blk_cell BK629.out 0).trans rfl, (blk_cell BK629.out 1).trans rfl⟩ (fun hHeld => ?_)
    clear hK K
    refine norm_ (a' := ?_) ?_ ?_
    rotate_left
    · show Act.put _ (some 26) _ = _
      simp only [Act.put, List.setIfInBounds_toArray, List.set_cons_zero, List.set_cons_succ, i64_w, i32_w]
      rfl
    refine one_ (i := 4) (N := some 28) #[true, true, true, true, true, false, false, false, false, false, false] rfl rfl (one_of HT_.out (by kernel_rfl)) (by decide) (fun K hK => ?_)
    refine goes_ Try.func47 (by kernel_rfl) rfl #[.agg #[.int .i64 a2_0, .int .i64 a2_1]] (by rfl) rfl rfl (by (try simp only [List.map_toArray, List.map_cons, List.map_nil]); first | done | rfl | (simp only [List.length_drop, List.length_take]; rfl)) ?_
    with_reducible refine (laws_toChord.calls a2_0 a2_1 t634 t635 _ A8.out).mono ?_
    rintro e w17 ⟨rfl, hb⟩
    refine ⟨_, rfl, ?_⟩
    have n0_ := Aside0.mk (Kd.R_below (by (with_reducible repeat (first | apply Kd.R_alloc | apply Kd.R_drewN | apply Kd.R_drew)); exact HO633.out) hb)
    have n1_ := Aside0.mk (blk_below (g := gb629) (o := .cells #[.int .i64 a2_0, .int .i64 a2_1] 50 (0, 0)) (by (with_reducible repeat (first | refine blk_drewN ?_ _ | refine blk_drew ?_ | refine blk_alloc ?_ _)); exact BK629.out) hb)
    have n2_ := Aside0.mk (below_step (by repeat (first | (with_reducible first | exact HB.out | apply below_alloc | apply pw_below_drewN | apply below_drew1 | refine below_set ?_ GE629.out) | exact HB.out)) hb)
    clear HO633
    clear BK629
    clear HB
    have HO633 := n0_
    have BK629 := n1_
    have HB := n2_
    clear n0_ n1_ n2_
    (try clear hb)
    (try clear hb2)
    (try clear hk)
    (try clear hi)
    obtain ⟨Ao18, co18, eo18⟩ := Kd.R_slice HO633.out
    (first | subst eo18 | (injection eo18 with f1_ f2_ f3_; have f4_ := f1_.symm; have f5_ := f3_.symm; clear f1_ f2_ f3_; subst f4_; subst f5_))
    refine hK.out _ _ ⟨(blk_cell BK629.out 0).trans rfl, (blk_cell BK629.out 1).trans rfl⟩ (fun hHeld => ?_)
    clear hK K
    refine norm_ (a' := ?_) ?_ ?_
    rotate_left
    · show Act.put _ (some 28) _ = _
      simp only [Act.put, List.setIfInBounds_toArray, List.set_cons_zero, List.set_cons_succ, i64_w, i32_w]
      rfl
    refine one_ (i := 5) (N := some 29) #[true, true, true, true, true, true, false, false, false, false, false] rfl rfl (one_of HT_.out (by kernel_rfl)) (by decide) (fun K hK => ?_)
    refine goes_ Try.func46 (by kernel_rfl) rfl #[.int .i64 a0, .slice Ao18 t631.length co18, .agg #[.int .i64 t634, .int .i64 t635]] (by rfl) rfl rfl (by (try simp only [List.map_toArray, List.map_cons, List.map_nil]); first | done | rfl | (simp only [List.length_drop, List.length_take]; rfl)) ?_
    with_reducible refine (spec_AddChord.calls k a0 (fun k_ => some k_ = (.slice Ao18 t631.length co18 : Value).ownBlock) (.slice Ao18 t631.length co18) t631 t634 t635 t636 t639 w _ ?side1 ?side2 A9.out).mono ?_
    (case side1 => repeat (first | (with_reducible first | exact HB.out | apply below_alloc | apply pw_below_drewN | apply below_drew1 | refine below_set ?_ GE629.out) | exact HB.out))
    (case side2 => exact Kd.R_tight rfl HO633.out)
    rintro e w19 ⟨v637, rfl, ho0, hb, hkp⟩
    refine ⟨_, rfl, ?_⟩
    have n0_ := Aside0.mk (blk_kept (by (with_reducible repeat (first | refine blk_drewN ?_ _ | refine blk_drew ?_ | refine blk_alloc ?_ _)); exact BK629.out) hkp (fun hs_ => (fun e_ => (Kd.R_ne HO633.out BK629.out (by decide)) e_) hs_))
    have n1_ := Aside0.mk (Kd.R_mono (ok' := fun k_ => True) ho0 (fun k_ hk_ => trivial))
    have n2_ := Aside0.mk (hb)
    clear BK629
    clear HB
    clear HO633
    have BK629 := n0_
    have HO638 := n1_
    have HB := n2_
    clear n0_ n1_ n2_
    (try clear hb)
    (try clear hkp)
    (try clear ho0)
    refine hK.out _ _ ⟨(blk_cell BK629.out 0).trans rfl, (blk_cell BK629.out 1).trans rfl⟩ (fun hHeld => ?_)
    clear hK K
    refine norm_ (a' := ?_) ?_ ?_
    rotate_left
    · show Act.put _ (some 29) _ = _
      simp only [Act.put, List.setIfInBounds_toArray, List.set_cons_zero, List.set_cons_succ, i64_w, i32_w]
      rfl
    refine pure_ (i := 6) (N := some 23) (v := ?_) (a' := ?_) #[true, true, true, true, true, true, true, false, false, false, false] rfl rfl (any_of HT_.out (by kernel_rfl)) (fun _ _ _ h => h) (Or.inl ⟨by rfl, ?_⟩) ?_ ?_
    rotate_left
    · intro w'
      go_simp
      with_reducible rfl
    rotate_left
    · simp only [Act.put, List.setIfInBounds_toArray, List.set_cons_zero, List.set_cons_succ, i64_w, i32_w]
      rfl
    refine pure_ (i := 7) (N := some 30) (v := ?_) (a' := ?_) #[true, true, true, true, true, true, true, true, false, false, false] rfl rfl (any_of HT_.out (by kernel_rfl)) (fun _ _ _ h => h) (Or.inl ⟨by rfl, ?_⟩) ?_ ?_
    rotate_left
    · intro w'
      go_simp
      with_reducible rfl
    rotate_left
    · simp only [Act.put, List.setIfInBounds_toArray, List.set_cons_zero, List.set_cons_succ, i64_w, i32_w]
      rfl
    refine pure_ (i := 8) (N := some 31) (v := ?_) (a' := ?_) #[true, true, true, true, true, true, true, true, true, false, false] rfl rfl (any_of HT_.out (by kernel_rfl)) (fun _ _ _ h => h) (Or.inl ⟨by rfl, ?_⟩) ?_ ?_
    rotate_left
    · intro w'
      go_simp
      with_reducible rfl
    rotate_left
    · simp only [Act.put, List.setIfInBounds_toArray, List.set_cons_zero, List.set_cons_succ, i64_w, i32_w]
      rfl
    refine pure_ (i := 9) (N := some 8) (v := ?_) (a' := ?_) #[true, true, true, true, true, true, true, true, true, true, false] rfl rfl (any_of HT_.out (by kernel_rfl)) (fun _ _ _ h => h) (Or.inl ⟨by rfl, ?_⟩) ?_ ?_
    rotate_left
    · intro w'
      go_simp
      with_reducible rfl
    rotate_left
    · simp only [Act.put, List.setIfInBounds_toArray, List.set_cons_zero, List.set_cons_succ, i64_w, i32_w]
      rfl
    refine pure_ (i := 10) (N := some 9) (v := ?_) (a' := ?_) #[true, true, true, true, true, true, true, true, true, true, true] rfl rfl (any_of HT_.out (by kernel_rfl)) (fun _ _ _ h => h) (Or.inl ⟨by rfl, ?_⟩) ?_ ?_
    rotate_left
    · intro w'
      go_simp
      with_reducible rfl
    rotate_left
    · simp only [Act.put, List.setIfInBounds_toArray, List.set_cons_zero, List.set_cons_succ, i64_w, i32_w]
      rfl
    refine done_ (done_of HT_.out (by kernel_rfl)) ?_
    go_upto_region 8 with (first | ((with_reducible refine gate_callee (f := 17) rfl ?_); refine goesL_ (some 33) rfl rfl Try.func17 (by kernel_rfl) rfl #[.slice A1 l1.length c1] rfl (by (try simp only [List.map_toArray, List.map_cons, List.map_nil]); first | done | rfl | (simp only [List.length_drop, List.length_take]; rfl)) ?_; (with_reducible refine (laws_toChordS.calls k _ _ l1 t640 _ ?side1 ?side2 A10.out).mono ?_); (case side1 => repeat (first | exact (Kd.C_below HR1.out HB.out) | (with_reducible refine Kd.C_alloc ?_ _) | (with_reducible refine Kd.C_drewN ?_ _) | (with_reducible refine Kd.C_drew ?_))); (case side2 => exact HC1.out); rintro e w20 ⟨v641, rfl, ho0, hb⟩; refine ⟨_, rfl, ?_⟩; have n0_ := Aside0.mk (Kd.R_elder' (by (with_reducible repeat (first | apply Kd.R_alloc | apply Kd.R_drewN | apply Kd.R_drew)); exact HO638.out) (Kd.R_base ho0) hb); have n1_ := Aside0.mk (Kd.R_lower (Kd.R_new' ho0 (Kd.R_lt (by (with_reducible repeat (first | apply Kd.R_alloc | apply Kd.R_drewN | apply Kd.R_drew)); exact HO638.out))) (below_size (by repeat (first | (with_reducible first | exact HB.out | apply below_alloc | apply pw_below_drewN | apply below_drew1 | refine below_set ?_ GE629.out) | exact HB.out)))); have n2_ := Aside0.mk (blk_below (g := gb629) (o := .cells #[.int .i64 a2_0, .int .i64 a2_1] 50 (0, 0)) (by (with_reducible repeat (first | refine blk_drewN ?_ _ | refine blk_drew ?_ | refine blk_alloc ?_ _)); exact BK629.out) hb); have n3_ := Aside0.mk (below_step (by repeat (first | (with_reducible first | exact HB.out | apply below_alloc | apply pw_below_drewN | apply below_drew1 | refine below_set ?_ GE629.out) | exact HB.out)) hb); clear HO638; clear BK629; clear HB; have HO638 := n0_; have HO642 := n1_; have BK629 := n2_; have HB := n3_; clear n0_ n1_ n2_ n3_; (try clear hb); (try clear hb2); (try clear hk); (try clear hi); (try clear ho0); have hcz21_0 : w20.cell? ⟨gb629, 0, none⟩ = some (.int .i64 a2_0) := (blk_cell BK629.out 0).trans rfl; have hcz21_1 : w20.cell? ⟨gb629, 1, none⟩ = some (.int .i64 a2_1) := (blk_cell BK629.out 1).trans rfl; have hfz21_0 := blk_frozen BK629.out 0; have hfz21_1 := blk_frozen BK629.out 1) | ((with_reducible refine gate_callee (f := 47) rfl ?_); refine goesL_ (some 38) rfl rfl Try.func47 (by kernel_rfl) rfl #[.agg #[.int .i64 a2_0, .int .i64 a2_1]] rfl (by (try simp only [List.map_toArray, List.map_cons, List.map_nil]); first | done | rfl | (simp only [List.length_drop, List.length_take]; rfl)) ?_; (with_reducible refine (laws_toChord.calls a2_0 a2_1 t643 t644 _ A11.out).mono ?_); rintro e w22 ⟨rfl, hb⟩; refine ⟨_, rfl, ?_⟩; have n0_ := Aside0.mk (Kd.R_below (by (with_reducible repeat (first | apply Kd.R_alloc | apply Kd.R_drewN | apply Kd.R_drew)); exact HO638.out) hb); have n1_ := Aside0.mk (Kd.R_below (by (with_reducible repeat (first | apply Kd.R_alloc | apply Kd.R_drewN | apply Kd.R_drew)); exact HO642.out) hb); have n2_ := Aside0.mk (blk_below (g := gb629) (o := .cells #[.int .i64 a2_0, .int .i64 a2_1] 50 (0, 0)) (by (with_reducible repeat (first | refine blk_drewN ?_ _ | refine blk_drew ?_ | refine blk_alloc ?_ _)); exact BK629.out) hb); have n3_ := Aside0.mk (below_step (by repeat (first | (with_reducible first | exact HB.out | apply below_alloc | apply pw_below_drewN | apply below_drew1 | refine below_set ?_ GE629.out) | exact HB.out)) hb); clear HO638; clear HO642; clear BK629; clear HB; have HO638 := n0_; have HO642 := n1_; have BK629 := n2_; have HB := n3_; clear n0_ n1_ n2_ n3_; (try clear hb); (try clear hb2); (try clear hk); (try clear hi); obtain ⟨Ao23, co23, eo23⟩ := Kd.R_slice HO642.out; subst eo23) | ((with_reducible refine gate_callee (f := 48) rfl ?_); refine goesL_ (some 39) rfl rfl Try.func48 (by kernel_rfl) rfl #[.int .i64 a0, .slice Ao23 t640.length co23, .agg #[.int .i64 t643, .int .i64 t644]] rfl (by (try simp only [List.map_toArray, List.map_cons, List.map_nil]); first | done | rfl | (simp only [List.length_drop, List.length_take]; rfl)) ?_; (with_reducible refine (impl_AddChord.calls k a0 _ _ t640 t643 t644 t645 t648 _ ?side1 ?side2 A12.out).mono ?_); (case side1 => repeat (first | exact (Kd.R_reads' HO642.out).2.2 | (with_reducible refine Kd.C_alloc ?_ _) | (with_reducible refine Kd.C_drewN ?_ _) | (with_reducible refine Kd.C_drew ?_))); (case side2 => exact (Kd.R_reads' HO642.out).2.1); rintro e w24 ⟨v646, rfl, ho0, hb⟩; refine ⟨_, rfl, ?_⟩; have n0_ := Aside0.mk (Kd.R_elder' (by (with_reducible repeat (first | apply Kd.R_alloc | apply Kd.R_drewN | apply Kd.R_drew)); exact HO638.out) (Kd.R_base ho0) hb); have n1_ := Aside0.mk (Kd.R_elder' (by (with_reducible repeat (first | apply Kd.R_alloc | apply Kd.R_drewN | apply Kd.R_drew)); exact HO642.out) (Kd.R_base ho0) hb); have n2_ := Aside0.mk (Kd.R_lower (Kd.R_new' (Kd.R_new' ho0 (Kd.R_lt (by (with_reducible repeat (first | apply Kd.R_alloc | apply Kd.R_drewN | apply Kd.R_drew)); exact HO638.out))) (Kd.R_lt (by (with_reducible repeat (first | apply Kd.R_alloc | apply Kd.R_drewN | apply Kd.R_drew)); exact HO642.out))) (below_size (by repeat (first | (with_reducible first | exact HB.out | apply below_alloc | apply pw_below_drewN | apply below_drew1 | refine below_set ?_ GE629.out) | exact HB.out)))); have n3_ := Aside0.mk (blk_below (g := gb629) (o := .cells #[.int .i64 a2_0, .int .i64 a2_1] 50 (0, 0)) (by (with_reducible repeat (first | refine blk_drewN ?_ _ | refine blk_drew ?_ | refine blk_alloc ?_ _)); exact BK629.out) hb); have n4_ := Aside0.mk (below_step (by repeat (first | (with_reducible first | exact HB.out | apply below_alloc | apply pw_below_drewN | apply below_drew1 | refine below_set ?_ GE629.out) | exact HB.out)) hb); clear HO638; clear HO642; clear BK629; clear HB; have HO638 := n0_; have HO642 := n1_; have HO647 := n2_; have BK629 := n3_; have HB := n4_; clear n0_ n1_ n2_ n3_ n4_; (try clear hb); (try clear hb2); (try clear hk); (try clear hi); (try clear ho0)))
    (try simp only [Act.put, List.setIfInBounds_toArray, List.set_cons_zero, List.set_cons_succ])
    go_cut [50] (fun v50 wc => ∃ (kq : Nat) (x50_12 : Bool), v50 = .bool x50_12 ∧ Aside0 (laws_FnExactAddChord.j0 kq a0 l1 t636 t639 t640 t645 t648 x50_12 a2_0 a2_1 = some r) ∧ Aside0 (kq ≤ k) ∧ Aside0 (Kd.R k52 52 wc w.heap.size (fun k_ => some k_ ≠ ((.slice Ao23 t640.length co23) : Value).ownBlock ∧ some k_ ≠ (v646 : Value).ownBlock) v637 t636) ∧ Aside0 (Kd.R k52 52 wc w.heap.size (fun k_ => some k_ ≠ (v637 : Value).ownBlock ∧ some k_ ≠ (v646 : Value).ownBlock) (.slice Ao23 t640.length co23) t640) ∧ Aside0 (Kd.R k52 52 wc w.heap.size (fun k_ => some k_ ≠ (v637 : Value).ownBlock ∧ some k_ ≠ ((.slice Ao23 t640.length co23) : Value).ownBlock) v646 t645) ∧ Aside0 (wc.heap[gb629]? = some (.cells #[.int .i64 a2_0, .int .i64 a2_1] 50 (0, 0))) ∧ Aside0 (Below w.heap.size w wc))
    case first =>
      have H := HC13.out
      clear HC13
      replace H := Option.bind_eq_some_iff.mp H
      obtain ⟨t649, A250, H⟩ := H
      replace H : (if t649 = true then (laws_FnExactAddChord.j0 k a0 l1 t636 t639 t640 t645 t648 (t648 != t639) a2_0 a2_1) else (laws_FnExactAddChord.j0 k a0 l1 t636 t639 t640 t645 t648 true a2_0 a2_1)) = some r := H
      have A25 := Aside0.mk A250
      clear A250
      by_cases c26 : t649 = true
      · subst c26
        have H1 : (laws_FnExactAddChord.j0 k a0 l1 t636 t639 t640 t645 t648 (t648 != t639) a2_0 a2_1) = some r := by rw [if_pos rfl] at H; exact H
        clear H
        have H := H1
        clear H1
        have H' := Aside0.mk H
        clear H
        obtain ⟨Ao27, co27, eo27⟩ := Kd.R_slice HO647.out
        subst eo27
        obtain ⟨Ao28, co28, eo28⟩ := Kd.R_slice HO638.out
        subst eo28
        go_wp2_with (first | ((with_reducible refine gate_callee (f := 19) rfl ?_); refine goesL_ (some 44) rfl rfl Try.func19 (by kernel_rfl) rfl #[.slice Ao27 t645.length co27, .slice Ao28 t636.length co28] rfl (by (try simp only [List.map_toArray, List.map_cons, List.map_nil]); first | done | rfl | (simp only [List.length_drop, List.length_take]; rfl)) ?_; (with_reducible refine (laws_eqChordS.calls k _ _ t645 _ _ t636 true _ ?side1 ?side2 ?side3 ?side4 A25.out).mono ?_); (case side1 => repeat (first | exact (Kd.R_reads' HO647.out).2.2 | (with_reducible refine Kd.C_alloc ?_ _) | (with_reducible refine Kd.C_drewN ?_ _) | (with_reducible refine Kd.C_drew ?_))); (case side2 => exact (Kd.R_reads' HO647.out).2.1); (case side3 => repeat (first | exact (Kd.R_reads' HO638.out).2.2 | (with_reducible refine Kd.C_alloc ?_ _) | (with_reducible refine Kd.C_drewN ?_ _) | (with_reducible refine Kd.C_drew ?_))); (case side4 => exact (Kd.R_reads' HO638.out).2.1); rintro e w29 ⟨rfl, hb⟩; refine ⟨_, rfl, ?_⟩; have n0_ := Aside0.mk (Kd.R_below (by (with_reducible repeat (first | apply Kd.R_alloc | apply Kd.R_drewN | apply Kd.R_drew)); exact HO638.out) hb); have n1_ := Aside0.mk (Kd.R_below (by (with_reducible repeat (first | apply Kd.R_alloc | apply Kd.R_drewN | apply Kd.R_drew)); exact HO642.out) hb); have n2_ := Aside0.mk (Kd.R_below (by (with_reducible repeat (first | apply Kd.R_alloc | apply Kd.R_drewN | apply Kd.R_drew)); exact HO647.out) hb); have n3_ := Aside0.mk (blk_below (g := gb629) (o := .cells #[.int .i64 a2_0, .int .i64 a2_1] 50 (0, 0)) (by (with_reducible repeat (first | refine blk_drewN ?_ _ | refine blk_drew ?_ | refine blk_alloc ?_ _)); exact BK629.out) hb); have n4_ := Aside0.mk (below_step (by repeat (first | (with_reducible first | exact HB.out | apply below_alloc | apply pw_below_drewN | apply below_drew1 | refine below_set ?_ GE629.out) | exact HB.out)) hb); clear HO638; clear HO642; clear HO647; clear BK629; clear HB; have HO638 := n0_; have HO642 := n1_; have HO647 := n2_; have BK629 := n3_; have HB := n4_; clear n0_ n1_ n2_ n3_ n4_; (try clear hb); (try clear hb2); (try clear hk); (try clear hi)))
        go_meet
        case rel => exact ⟨_, ((t648 != t639)), (by first | rfl | (simp; done) | (simp [*]; done)), H', ⟨by first | omega | exact Nat.le_refl _⟩, ⟨by (with_reducible repeat (first | apply Kd.R_alloc | apply Kd.R_drewN | apply Kd.R_drew)); exact Kd.R_mono HO638.out (fun _ hk => ⟨hk.1.2, hk.2⟩)⟩, ⟨by (with_reducible repeat (first | apply Kd.R_alloc | apply Kd.R_drewN | apply Kd.R_drew)); exact Kd.R_mono HO642.out (fun _ hk => ⟨hk.1.2, hk.2⟩)⟩, ⟨by (with_reducible repeat (first | apply Kd.R_alloc | apply Kd.R_drewN | apply Kd.R_drew)); exact Kd.R_mono HO647.out (fun _ hk => ⟨hk.1.2, hk.2⟩)⟩, ⟨by (with_reducible repeat (first | refine blk_drewN ?_ _ | refine blk_drew ?_ | refine blk_alloc ?_ _)); exact BK629.out⟩, ⟨by repeat (first | (with_reducible first | exact HB.out | apply below_alloc | apply pw_below_drewN | apply below_drew1 | refine below_set ?_ GE629.out) | exact HB.out)⟩⟩
      · replace c26 := Bool.eq_false_iff.mpr c26
        subst c26
        have H1 : (laws_FnExactAddChord.j0 k a0 l1 t636 t639 t640 t645 t648 true a2_0 a2_1) = some r := by rw [if_neg (show ¬ (false = true) by decide)] at H; exact H
        clear H
        have H := H1
        clear H1
        have H' := Aside0.mk H
        clear H
        obtain ⟨Ao30, co30, eo30⟩ := Kd.R_slice HO647.out
        subst eo30
        obtain ⟨Ao31, co31, eo31⟩ := Kd.R_slice HO638.out
        subst eo31
        go_wp2_with (first | ((with_reducible refine gate_callee (f := 19) rfl ?_); refine goesL_ (some 44) rfl rfl Try.func19 (by kernel_rfl) rfl #[.slice Ao30 t645.length co30, .slice Ao31 t636.length co31] rfl (by (try simp only [List.map_toArray, List.map_cons, List.map_nil]); first | done | rfl | (simp only [List.length_drop, List.length_take]; rfl)) ?_; (with_reducible refine (laws_eqChordS.calls k _ _ t645 _ _ t636 false _ ?side1 ?side2 ?side3 ?side4 A25.out).mono ?_); (case side1 => repeat (first | exact (Kd.R_reads' HO647.out).2.2 | (with_reducible refine Kd.C_alloc ?_ _) | (with_reducible refine Kd.C_drewN ?_ _) | (with_reducible refine Kd.C_drew ?_))); (case side2 => exact (Kd.R_reads' HO647.out).2.1); (case side3 => repeat (first | exact (Kd.R_reads' HO638.out).2.2 | (with_reducible refine Kd.C_alloc ?_ _) | (with_reducible refine Kd.C_drewN ?_ _) | (with_reducible refine Kd.C_drew ?_))); (case side4 => exact (Kd.R_reads' HO638.out).2.1); rintro e w32 ⟨rfl, hb⟩; refine ⟨_, rfl, ?_⟩; have n0_ := Aside0.mk (Kd.R_below (by (with_reducible repeat (first | apply Kd.R_alloc | apply Kd.R_drewN | apply Kd.R_drew)); exact HO638.out) hb); have n1_ := Aside0.mk (Kd.R_below (by (with_reducible repeat (first | apply Kd.R_alloc | apply Kd.R_drewN | apply Kd.R_drew)); exact HO642.out) hb); have n2_ := Aside0.mk (Kd.R_below (by (with_reducible repeat (first | apply Kd.R_alloc | apply Kd.R_drewN | apply Kd.R_drew)); exact HO647.out) hb); have n3_ := Aside0.mk (blk_below (g := gb629) (o := .cells #[.int .i64 a2_0, .int .i64 a2_1] 50 (0, 0)) (by (with_reducible repeat (first | refine blk_drewN ?_ _ | refine blk_drew ?_ | refine blk_alloc ?_ _)); exact BK629.out) hb); have n4_ := Aside0.mk (below_step (by repeat (first | (with_reducible first | exact HB.out | apply below_alloc | apply pw_below_drewN | apply below_drew1 | refine below_set ?_ GE629.out) | exact HB.out)) hb); clear HO638; clear HO642; clear HO647; clear BK629; clear HB; have HO638 := n0_; have HO642 := n1_; have HO647 := n2_; have BK629 := n3_; have HB := n4_; clear n0_ n1_ n2_ n3_ n4_; (try clear hb); (try clear hb2); (try clear hk); (try clear hi)))
        go_meet
        case rel => exact ⟨_, (true), (by first | rfl | (simp; done) | (simp [*]; done)), H', ⟨by first | omega | exact Nat.le_refl _⟩, ⟨by (with_reducible repeat (first | apply Kd.R_alloc | apply Kd.R_drewN | apply Kd.R_drew)); exact Kd.R_mono HO638.out (fun _ hk => ⟨hk.1.2, hk.2⟩)⟩, ⟨by (with_reducible repeat (first | apply Kd.R_alloc | apply Kd.R_drewN | apply Kd.R_drew)); exact Kd.R_mono HO642.out (fun _ hk => ⟨hk.1.2, hk.2⟩)⟩, ⟨by (with_reducible repeat (first | apply Kd.R_alloc | apply Kd.R_drewN | apply Kd.R_drew)); exact Kd.R_mono HO647.out (fun _ hk => ⟨hk.1.2, hk.2⟩)⟩, ⟨by (with_reducible repeat (first | refine blk_drewN ?_ _ | refine blk_drew ?_ | refine blk_alloc ?_ _)); exact BK629.out⟩, ⟨by repeat (first | (with_reducible first | exact HB.out | apply below_alloc | apply pw_below_drewN | apply below_drew1 | refine below_set ?_ GE629.out) | exact HB.out)⟩⟩
    case rest =>
      clear HC13
      try clear c1
      try clear c2
      try clear p2
      try clear c4
      try clear c5
      try clear c5b0
      try clear c13
      try clear c15
      try clear c17
      try clear c19
      try clear c26
      try clear hcz21_0
      try clear hcz21_1
      try clear hfz21_0
      try clear hfz21_1
      obtain ⟨kq, x50_12, rfl, HA, HJ12, HO_8, HO_10, HO_11, BK629, HB⟩ := hcut
      cases kq with
      | zero => exact absurd HA.out (by simp [laws_FnExactAddChord.j0])
      | succ kj12 =>
        have H := HA.out
        clear HA
        simp only [laws_FnExactAddChord.j0] at H
        by_cases c33 : x50_12 = true
        · subst c33
          have H1 : (some false) = some r := by rw [if_pos rfl] at H; exact H
          clear H
          have H := H1
          clear H1
          obtain rfl := Option.some.inj H
          go_wp2
          go_ret
          exact ⟨by first | rfl | (simp [errW_none, errW_some] <;> rfl) | (simp [*, errW_none, errW_some] <;> rfl), by repeat (first | (with_reducible first | exact HB.out | apply below_alloc | apply pw_below_drewN | apply below_drew1 | refine below_set ?_ GE629.out) | exact HB.out)⟩
        · replace c33 := Bool.eq_false_iff.mpr c33
          subst c33
          have H1 : ((laws_toChordS.f kj12 l1).bind fun t650 => ((laws_eqChordS.f kj12 t640 t650).bind fun t653 => (if t653 = true then ((laws_markChordS.f kj12 t640 1).bind fun bt654 => (if bt654.1 < 0 then (laws_FnExactAddChord.j1 kj12 a0 l1 t636 t639 t645 true a2_0 a2_1) else ((laws_eqChordS.f kj12 t645 t636).bind fun t656 => (if t656 = true then (laws_FnExactAddChord.j1 kj12 a0 l1 t636 t639 t645 (t648 != t639) a2_0 a2_1) else (laws_FnExactAddChord.j1 kj12 a0 l1 t636 t639 t645 true a2_0 a2_1))))) else (some false)))) = some r := by rw [if_neg (show ¬ (false = true) by decide)] at H; exact H
          clear H
          have H := H1
          clear H1
          replace H := Option.bind_eq_some_iff.mp H
          obtain ⟨t650, A340, H⟩ := H
          replace H : ((laws_eqChordS.f kj12 t640 t650).bind fun t653 => (if t653 = true then ((laws_markChordS.f kj12 t640 1).bind fun bt654 => (if bt654.1 < 0 then (laws_FnExactAddChord.j1 kj12 a0 l1 t636 t639 t645 true a2_0 a2_1) else ((laws_eqChordS.f kj12 t645 t636).bind fun t656 => (if t656 = true then (laws_FnExactAddChord.j1 kj12 a0 l1 t636 t639 t645 (t648 != t639) a2_0 a2_1) else (laws_FnExactAddChord.j1 kj12 a0 l1 t636 t639 t645 true a2_0 a2_1))))) else (some false))) = some r := H
          have A34 := Aside0.mk A340
          clear A340
          replace H := Option.bind_eq_some_iff.mp H
          obtain ⟨t653, A350, H⟩ := H
          replace H : (if t653 = true then ((laws_markChordS.f kj12 t640 1).bind fun bt654 => (if bt654.1 < 0 then (laws_FnExactAddChord.j1 kj12 a0 l1 t636 t639 t645 true a2_0 a2_1) else ((laws_eqChordS.f kj12 t645 t636).bind fun t656 => (if t656 = true then (laws_FnExactAddChord.j1 kj12 a0 l1 t636 t639 t645 (t648 != t639) a2_0 a2_1) else (laws_FnExactAddChord.j1 kj12 a0 l1 t636 t639 t645 true a2_0 a2_1))))) else (some false)) = some r := H
          have A35 := Aside0.mk A350
          clear A350
          by_cases c36 : t653 = true
          · subst c36
            have H1 : ((laws_markChordS.f kj12 t640 1).bind fun bt654 => (if bt654.1 < 0 then (laws_FnExactAddChord.j1 kj12 a0 l1 t636 t639 t645 true a2_0 a2_1) else ((laws_eqChordS.f kj12 t645 t636).bind fun t656 => (if t656 = true then (laws_FnExactAddChord.j1 kj12 a0 l1 t636 t639 t645 (t648 != t639) a2_0 a2_1) else (laws_FnExactAddChord.j1 kj12 a0 l1 t636 t639 t645 true a2_0 a2_1))))) = some r := by rw [if_pos rfl] at H; exact H
            clear H
            have H := H1
            clear H1
            replace H := Option.bind_eq_some_iff.mp H
            obtain ⟨⟨t654, t655⟩, A370, H⟩ := H
            replace H : (if t654 < 0 then (laws_FnExactAddChord.j1 kj12 a0 l1 t636 t639 t645 true a2_0 a2_1) else ((laws_eqChordS.f kj12 t645 t636).bind fun t656 => (if t656 = true then (laws_FnExactAddChord.j1 kj12 a0 l1 t636 t639 t645 (t648 != t639) a2_0 a2_1) else (laws_FnExactAddChord.j1 kj12 a0 l1 t636 t639 t645 true a2_0 a2_1)))) = some r := H
            have A37 := Aside0.mk A370
            clear A370
            have HC38 := Aside0.mk H
            clear H
            go_upto_region 14 with (first | ((with_reducible refine gate_callee (f := 17) rfl ?_); refine goesL_ (some 53) rfl rfl Try.func17 (by kernel_rfl) rfl #[.slice A1 l1.length c1] rfl (by (try simp only [List.map_toArray, List.map_cons, List.map_nil]); first | done | rfl | (simp only [List.length_drop, List.length_take]; rfl)) ?_; (with_reducible refine (laws_toChordS.calls kj12 _ _ l1 t650 _ ?side1 ?side2 A34.out).mono ?_); (case side1 => repeat (first | exact (Kd.C_below HR1.out HB.out) | (with_reducible refine Kd.C_alloc ?_ _) | (with_reducible refine Kd.C_drewN ?_ _) | (with_reducible refine Kd.C_drew ?_))); (case side2 => exact HC1.out); rintro e w39 ⟨v651, rfl, ho0, hb⟩; refine ⟨_, rfl, ?_⟩; have n0_ := Aside0.mk (Kd.R_elder' (by (with_reducible repeat (first | apply Kd.R_alloc | apply Kd.R_drewN | apply Kd.R_drew)); exact HO_8.out) (Kd.R_base ho0) hb); have n1_ := Aside0.mk (Kd.R_elder' (by (with_reducible repeat (first | apply Kd.R_alloc | apply Kd.R_drewN | apply Kd.R_drew)); exact HO_10.out) (Kd.R_base ho0) hb); have n2_ := Aside0.mk (Kd.R_elder' (by (with_reducible repeat (first | apply Kd.R_alloc | apply Kd.R_drewN | apply Kd.R_drew)); exact HO_11.out) (Kd.R_base ho0) hb); have n3_ := Aside0.mk (Kd.R_lower (Kd.R_new' (Kd.R_new' (Kd.R_new' ho0 (Kd.R_lt (by (with_reducible repeat (first | apply Kd.R_alloc | apply Kd.R_drewN | apply Kd.R_drew)); exact HO_8.out))) (Kd.R_lt (by (with_reducible repeat (first | apply Kd.R_alloc | apply Kd.R_drewN | apply Kd.R_drew)); exact HO_10.out))) (Kd.R_lt (by (with_reducible repeat (first | apply Kd.R_alloc | apply Kd.R_drewN | apply Kd.R_drew)); exact HO_11.out))) (below_size (by repeat (first | (with_reducible first | exact HB.out | apply below_alloc | apply pw_below_drewN | apply below_drew1 | refine below_set ?_ GE629.out) | exact HB.out)))); have n4_ := Aside0.mk (blk_below (g := gb629) (o := .cells #[.int .i64 a2_0, .int .i64 a2_1] 50 (0, 0)) (by (with_reducible repeat (first | refine blk_drewN ?_ _ | refine blk_drew ?_ | refine blk_alloc ?_ _)); exact BK629.out) hb); have n5_ := Aside0.mk (below_step (by repeat (first | (with_reducible first | exact HB.out | apply below_alloc | apply pw_below_drewN | apply below_drew1 | refine below_set ?_ GE629.out) | exact HB.out)) hb); clear HO_8; clear HO_10; clear HO_11; clear BK629; clear HB; have HO_8 := n0_; have HO_10 := n1_; have HO_11 := n2_; have HO652 := n3_; have BK629 := n4_; have HB := n5_; clear n0_ n1_ n2_ n3_ n4_ n5_; (try clear hb); (try clear hb2); (try clear hk); (try clear hi); (try clear ho0); obtain ⟨Ao40, co40, eo40⟩ := Kd.R_slice HO652.out; subst eo40) | ((with_reducible refine gate_callee (f := 19) rfl ?_); refine goesL_ (some 54) rfl rfl Try.func19 (by kernel_rfl) rfl #[.slice Ao23 t640.length co23, .slice Ao40 t650.length co40] rfl (by (try simp only [List.map_toArray, List.map_cons, List.map_nil]); first | done | rfl | (simp only [List.length_drop, List.length_take]; rfl)) ?_; (with_reducible refine (laws_eqChordS.calls kj12 _ _ t640 _ _ t650 true _ ?side1 ?side2 ?side3 ?side4 A35.out).mono ?_); (case side1 => repeat (first | exact (Kd.R_reads' HO_10.out).2.2 | (with_reducible refine Kd.C_alloc ?_ _) | (with_reducible refine Kd.C_drewN ?_ _) | (with_reducible refine Kd.C_drew ?_))); (case side2 => exact (Kd.R_reads' HO_10.out).2.1); (case side3 => repeat (first | exact (Kd.R_reads' HO652.out).2.2 | (with_reducible refine Kd.C_alloc ?_ _) | (with_reducible refine Kd.C_drewN ?_ _) | (with_reducible refine Kd.C_drew ?_))); (case side4 => exact (Kd.R_reads' HO652.out).2.1); rintro e w41 ⟨rfl, hb⟩; refine ⟨_, rfl, ?_⟩; have n0_ := Aside0.mk (Kd.R_below (by (with_reducible repeat (first | apply Kd.R_alloc | apply Kd.R_drewN | apply Kd.R_drew)); exact HO_8.out) hb); have n1_ := Aside0.mk (Kd.R_below (by (with_reducible repeat (first | apply Kd.R_alloc | apply Kd.R_drewN | apply Kd.R_drew)); exact HO_10.out) hb); have n2_ := Aside0.mk (Kd.R_below (by (with_reducible repeat (first | apply Kd.R_alloc | apply Kd.R_drewN | apply Kd.R_drew)); exact HO_11.out) hb); have n3_ := Aside0.mk (Kd.R_below (by (with_reducible repeat (first | apply Kd.R_alloc | apply Kd.R_drewN | apply Kd.R_drew)); exact HO652.out) hb); have n4_ := Aside0.mk (blk_below (g := gb629) (o := .cells #[.int .i64 a2_0, .int .i64 a2_1] 50 (0, 0)) (by (with_reducible repeat (first | refine blk_drewN ?_ _ | refine blk_drew ?_ | refine blk_alloc ?_ _)); exact BK629.out) hb); have n5_ := Aside0.mk (below_step (by repeat (first | (with_reducible first | exact HB.out | apply below_alloc | apply pw_below_drewN | apply below_drew1 | refine below_set ?_ GE629.out) | exact HB.out)) hb); clear HO_8; clear HO_10; clear HO_11; clear HO652; clear BK629; clear HB; have HO_8 := n0_; have HO_10 := n1_; have HO_11 := n2_; have HO652 := n3_; have BK629 := n4_; have HB := n5_; clear n0_ n1_ n2_ n3_ n4_ n5_; (try clear hb); (try clear hb2); (try clear hk); (try clear hi)) | ((with_reducible refine gate_callee (f := 26) rfl ?_); refine goesL_ (some 58) rfl rfl Try.func26 (by kernel_rfl) rfl #[.slice Ao23 t640.length co23, .int .i64 1] rfl (by (try simp only [List.map_toArray, List.map_cons, List.map_nil]); first | done | rfl | (simp only [List.length_drop, List.length_take]; rfl)) ?_; (with_reducible refine (laws_markChordS.calls kj12 (fun k_ => some k_ = (.slice Ao23 t640.length co23 : Value).ownBlock) (.slice Ao23 t640.length co23) t640 1 t654 t655 w _ ?side1 ?side2 A37.out).mono ?_); (case side1 => repeat (first | (with_reducible first | exact HB.out | apply below_alloc | apply pw_below_drewN | apply below_drew1 | refine below_set ?_ GE629.out) | exact HB.out)); (case side2 => exact Kd.R_tight rfl HO_10.out); rintro e w42 ⟨rfl, hy0, hb, hkp⟩; refine ⟨_, rfl, ?_⟩; have n0_ := Aside0.mk (Kd.R_mono (ok' := fun k_ => some k_ ≠ (.slice Ao23 t640.length co23 : Value).ownBlock ∧ some k_ ≠ (v646 : Value).ownBlock ∧ some k_ ≠ (.slice Ao40 t650.length co40 : Value).ownBlock) (Kd.R_keptB (HO_8.out) hkp (fun k_ hk_ hs_ => (hk_.1.1) hs_)) (fun k_ hk_ => ⟨hk_.1.1.1, hk_.1.1.2, hk_.1.2⟩)); have n1_ := Aside0.mk (Kd.R_reok rfl hy0 (fun k_ e_ => HO_10.out.1 k_ e_)); have n2_ := Aside0.mk (Kd.R_mono (ok' := fun k_ => some k_ ≠ (v637 : Value).ownBlock ∧ some k_ ≠ (.slice Ao23 t640.length co23 : Value).ownBlock ∧ some k_ ≠ (.slice Ao40 t650.length co40 : Value).ownBlock) (Kd.R_keptB (HO_11.out) hkp (fun k_ hk_ hs_ => (hk_.1.2) hs_)) (fun k_ hk_ => ⟨hk_.1.1.1, hk_.1.1.2, hk_.1.2⟩)); have n3_ := Aside0.mk (blk_kept (by (with_reducible repeat (first | refine blk_drewN ?_ _ | refine blk_drew ?_ | refine blk_alloc ?_ _)); exact BK629.out) hkp (fun hs_ => (fun e_ => (Kd.R_ne HO_10.out BK629.out (by decide)) e_) hs_)); have n4_ := Aside0.mk (Kd.R_mono (ok' := fun k_ => some k_ ≠ (v637 : Value).ownBlock ∧ some k_ ≠ (.slice Ao23 t640.length co23 : Value).ownBlock ∧ some k_ ≠ (v646 : Value).ownBlock) (Kd.R_keptB (HO652.out) hkp (fun k_ hk_ hs_ => (hk_.1.2) hs_)) (fun k_ hk_ => ⟨hk_.1.1.1.2, hk_.1.1.2, hk_.1.2⟩)); have n5_ := Aside0.mk (hb); clear HO_8; clear HO_10; clear HO_11; clear BK629; clear HO652; clear HB; have HO_8 := n0_; have HO_10 := n1_; have HO_11 := n2_; have BK629 := n3_; have HO652 := n4_; have HB := n5_; clear n0_ n1_ n2_ n3_ n4_ n5_; (try clear hb); (try clear hkp); (try clear hy0)))
            (try simp only [Act.put, List.setIfInBounds_toArray, List.set_cons_zero, List.set_cons_succ])
            go_cut [71] (fun v71 wc => ∃ (kq : Nat) (x71_37 : Bool), v71 = .bool x71_37 ∧ Aside0 (laws_FnExactAddChord.j1 kq a0 l1 t636 t639 t645 x71_37 a2_0 a2_1 = some r) ∧ Aside0 (kq ≤ kj12) ∧ Aside0 (Kd.R k52 52 wc w.heap.size (fun k_ => some k_ ≠ (v646 : Value).ownBlock) v637 t636) ∧ Aside0 (Kd.R k52 52 wc w.heap.size (fun k_ => some k_ ≠ (v637 : Value).ownBlock) v646 t645) ∧ Aside0 (wc.heap[gb629]? = some (.cells #[.int .i64 a2_0, .int .i64 a2_1] 50 (0, 0))) ∧ Aside0 (Below w.heap.size w wc))
            case first =>
              have H := HC38.out
              clear HC38
              by_cases c43 : t654 < 0
              · rw [if_pos c43] at H
                have c43b0 : decide (t654 < 0) = true := decide_eq_true c43
                clear c43
                (first | rw [c43b0] | (simp only [i64_w, i32_w]; rw [c43b0]) | skip)
                have H' := Aside0.mk H
                clear H
                go_wp2
                go_meet
                case rel => exact ⟨_, (true), (by first | rfl | (simp; done) | (simp [*]; done)), H', ⟨by have := HJ12.out; first | omega | exact Nat.le_refl _⟩, ⟨by (with_reducible repeat (first | apply Kd.R_alloc | apply Kd.R_drewN | apply Kd.R_drew)); exact Kd.R_mono HO_8.out (fun _ hk => hk.2.1)⟩, ⟨by (with_reducible repeat (first | apply Kd.R_alloc | apply Kd.R_drewN | apply Kd.R_drew)); exact Kd.R_mono HO_11.out (fun _ hk => hk.1)⟩, ⟨by (with_reducible repeat (first | refine blk_drewN ?_ _ | refine blk_drew ?_ | refine blk_alloc ?_ _)); exact BK629.out⟩, ⟨by repeat (first | (with_reducible first | exact HB.out | apply below_alloc | apply pw_below_drewN | apply below_drew1 | refine below_set ?_ GE629.out) | exact HB.out)⟩⟩
              · rw [if_neg c43] at H
                have c43b0 : decide (t654 < 0) = false := decide_eq_false c43
                clear c43
                (first | rw [c43b0] | (simp only [i64_w, i32_w]; rw [c43b0]) | skip)
                replace H := Option.bind_eq_some_iff.mp H
                obtain ⟨t656, A440, H⟩ := H
                replace H : (if t656 = true then (laws_FnExactAddChord.j1 kj12 a0 l1 t636 t639 t645 (t648 != t639) a2_0 a2_1) else (laws_FnExactAddChord.j1 kj12 a0 l1 t636 t639 t645 true a2_0 a2_1)) = some r := H
                have A44 := Aside0.mk A440
                clear A440
                by_cases c45 : t656 = true
                · subst c45
                  have H1 : (laws_FnExactAddChord.j1 kj12 a0 l1 t636 t639 t645 (t648 != t639) a2_0 a2_1) = some r := by rw [if_pos rfl] at H; exact H
                  clear H
                  have H := H1
                  clear H1
                  have H' := Aside0.mk H
                  clear H
                  obtain ⟨Ao46, co46, eo46⟩ := Kd.R_slice HO_11.out
                  subst eo46
                  obtain ⟨Ao47, co47, eo47⟩ := Kd.R_slice HO_8.out
                  subst eo47
                  go_wp2_with (first | (go_at_call 19; (with_reducible refine (laws_eqChordS.calls kj12 _ _ t645 _ _ t636 true _ ?side1 ?side2 ?side3 ?side4 A44.out).mono ?_); (case side1 => repeat (first | exact (Kd.R_reads' HO_11.out).2.2 | (with_reducible refine Kd.C_alloc ?_ _) | (with_reducible refine Kd.C_drewN ?_ _) | (with_reducible refine Kd.C_drew ?_))); (case side2 => exact (Kd.R_reads' HO_11.out).2.1); (case side3 => repeat (first | exact (Kd.R_reads' HO_8.out).2.2 | (with_reducible refine Kd.C_alloc ?_ _) | (with_reducible refine Kd.C_drewN ?_ _) | (with_reducible refine Kd.C_drew ?_))); (case side4 => exact (Kd.R_reads' HO_8.out).2.1); rintro e w48 ⟨rfl, hb⟩; have n0_ := Aside0.mk (Kd.R_below (by (with_reducible repeat (first | apply Kd.R_alloc | apply Kd.R_drewN | apply Kd.R_drew)); exact HO_8.out) hb); have n1_ := Aside0.mk (Kd.R_below (by (with_reducible repeat (first | apply Kd.R_alloc | apply Kd.R_drewN | apply Kd.R_drew)); exact HO_10.out) hb); have n2_ := Aside0.mk (Kd.R_below (by (with_reducible repeat (first | apply Kd.R_alloc | apply Kd.R_drewN | apply Kd.R_drew)); exact HO_11.out) hb); have n3_ := Aside0.mk (Kd.R_below (by (with_reducible repeat (first | apply Kd.R_alloc | apply Kd.R_drewN | apply Kd.R_drew)); exact HO652.out) hb); have n4_ := Aside0.mk (blk_below (g := gb629) (o := .cells #[.int .i64 a2_0, .int .i64 a2_1] 50 (0, 0)) (by (with_reducible repeat (first | refine blk_drewN ?_ _ | refine blk_drew ?_ | refine blk_alloc ?_ _)); exact BK629.out) hb); have n5_ := Aside0.mk (below_step (by repeat (first | (with_reducible first | exact HB.out | apply below_alloc | apply pw_below_drewN | apply below_drew1 | refine below_set ?_ GE629.out) | exact HB.out)) hb); clear HO_8; clear HO_10; clear HO_11; clear HO652; clear BK629; clear HB; have HO_8 := n0_; have HO_10 := n1_; have HO_11 := n2_; have HO652 := n3_; have BK629 := n4_; have HB := n5_; clear n0_ n1_ n2_ n3_ n4_ n5_; (try clear hb); (try clear hb2); (try clear hk); (try clear hi)))
                  go_meet
                  case rel => exact ⟨_, ((t648 != t639)), (by first | rfl | (simp; done) | (simp [*]; done)), H', ⟨by have := HJ12.out; first | omega | exact Nat.le_refl _⟩, ⟨by (with_reducible repeat (first | apply Kd.R_alloc | apply Kd.R_drewN | apply Kd.R_drew)); exact Kd.R_mono HO_8.out (fun _ hk => hk.2.1)⟩, ⟨by (with_reducible repeat (first | apply Kd.R_alloc | apply Kd.R_drewN | apply Kd.R_drew)); exact Kd.R_mono HO_11.out (fun _ hk => hk.1)⟩, ⟨by (with_reducible repeat (first | refine blk_drewN ?_ _ | refine blk_drew ?_ | refine blk_alloc ?_ _)); exact BK629.out⟩, ⟨by repeat (first | (with_reducible first | exact HB.out | apply below_alloc | apply pw_below_drewN | apply below_drew1 | refine below_set ?_ GE629.out) | exact HB.out)⟩⟩
                · replace c45 := Bool.eq_false_iff.mpr c45
                  subst c45
                  have H1 : (laws_FnExactAddChord.j1 kj12 a0 l1 t636 t639 t645 true a2_0 a2_1) = some r := by rw [if_neg (show ¬ (false = true) by decide)] at H; exact H
                  clear H
                  have H := H1
                  clear H1
                  have H' := Aside0.mk H
                  clear H
                  obtain ⟨Ao49, co49, eo49⟩ := Kd.R_slice HO_11.out
                  subst eo49
                  obtain ⟨Ao50, co50, eo50⟩ := Kd.R_slice HO_8.out
                  subst eo50
                  go_wp2_with (first | (go_at_call 19; (with_reducible refine (laws_eqChordS.calls kj12 _ _ t645 _ _ t636 false _ ?side1 ?side2 ?side3 ?side4 A44.out).mono ?_); (case side1 => repeat (first | exact (Kd.R_reads' HO_11.out).2.2 | (with_reducible refine Kd.C_alloc ?_ _) | (with_reducible refine Kd.C_drewN ?_ _) | (with_reducible refine Kd.C_drew ?_))); (case side2 => exact (Kd.R_reads' HO_11.out).2.1); (case side3 => repeat (first | exact (Kd.R_reads' HO_8.out).2.2 | (with_reducible refine Kd.C_alloc ?_ _) | (with_reducible refine Kd.C_drewN ?_ _) | (with_reducible refine Kd.C_drew ?_))); (case side4 => exact (Kd.R_reads' HO_8.out).2.1); rintro e w51 ⟨rfl, hb⟩; have n0_ := Aside0.mk (Kd.R_below (by (with_reducible repeat (first | apply Kd.R_alloc | apply Kd.R_drewN | apply Kd.R_drew)); exact HO_8.out) hb); have n1_ := Aside0.mk (Kd.R_below (by (with_reducible repeat (first | apply Kd.R_alloc | apply Kd.R_drewN | apply Kd.R_drew)); exact HO_10.out) hb); have n2_ := Aside0.mk (Kd.R_below (by (with_reducible repeat (first | apply Kd.R_alloc | apply Kd.R_drewN | apply Kd.R_drew)); exact HO_11.out) hb); have n3_ := Aside0.mk (Kd.R_below (by (with_reducible repeat (first | apply Kd.R_alloc | apply Kd.R_drewN | apply Kd.R_drew)); exact HO652.out) hb); have n4_ := Aside0.mk (blk_below (g := gb629) (o := .cells #[.int .i64 a2_0, .int .i64 a2_1] 50 (0, 0)) (by (with_reducible repeat (first | refine blk_drewN ?_ _ | refine blk_drew ?_ | refine blk_alloc ?_ _)); exact BK629.out) hb); have n5_ := Aside0.mk (below_step (by repeat (first | (with_reducible first | exact HB.out | apply below_alloc | apply pw_below_drewN | apply below_drew1 | refine below_set ?_ GE629.out) | exact HB.out)) hb); clear HO_8; clear HO_10; clear HO_11; clear HO652; clear BK629; clear HB; have HO_8 := n0_; have HO_10 := n1_; have HO_11 := n2_; have HO652 := n3_; have BK629 := n4_; have HB := n5_; clear n0_ n1_ n2_ n3_ n4_ n5_; (try clear hb); (try clear hb2); (try clear hk); (try clear hi)))
                  go_meet
                  case rel => exact ⟨_, (true), (by first | rfl | (simp; done) | (simp [*]; done)), H', ⟨by have := HJ12.out; first | omega | exact Nat.le_refl _⟩, ⟨by (with_reducible repeat (first | apply Kd.R_alloc | apply Kd.R_drewN | apply Kd.R_drew)); exact Kd.R_mono HO_8.out (fun _ hk => hk.2.1)⟩, ⟨by (with_reducible repeat (first | apply Kd.R_alloc | apply Kd.R_drewN | apply Kd.R_drew)); exact Kd.R_mono HO_11.out (fun _ hk => hk.1)⟩, ⟨by (with_reducible repeat (first | refine blk_drewN ?_ _ | refine blk_drew ?_ | refine blk_alloc ?_ _)); exact BK629.out⟩, ⟨by repeat (first | (with_reducible first | exact HB.out | apply below_alloc | apply pw_below_drewN | apply below_drew1 | refine below_set ?_ GE629.out) | exact HB.out)⟩⟩
            case rest =>
              clear HC38
              try clear c1
              try clear c2
              try clear p2
              try clear c3
              try clear c4
              try clear c5
              try clear c5b0
              try clear c13
              try clear c15
              try clear c17
              try clear c19
              try clear c26
              try clear c33
              try clear c36
              try clear c43
              try clear c43b0
              try clear c45
              try clear c46
              try clear c47
              try clear c48
              try clear hcz21_0
              try clear hcz21_1
              try clear hfz21_0
              try clear hfz21_1
              try clear p2
              obtain ⟨kq, x71_37, rfl, HA, HJ37, HO_8, HO_11, BK629, HB⟩ := hcut
              cases kq with
              | zero => exact absurd HA.out (by simp [laws_FnExactAddChord.j1])
              | succ kj37 =>
                have H := HA.out
                clear HA
                simp only [laws_FnExactAddChord.j1] at H
                by_cases c52 : x71_37 = true
                · subst c52
                  have H1 : (some false) = some r := by rw [if_pos rfl] at H; exact H
                  clear H
                  have H := H1
                  clear H1
                  obtain rfl := Option.some.inj H
                  go_wp2
                  go_ret
                  exact ⟨by first | rfl | (simp [errW_none, errW_some] <;> rfl) | (simp [*, errW_none, errW_some] <;> rfl), by repeat (first | (with_reducible first | exact HB.out | apply below_alloc | apply pw_below_drewN | apply below_drew1 | refine below_set ?_ GE629.out) | exact HB.out)⟩
                · replace c52 := Bool.eq_false_iff.mpr c52
                  subst c52
                  have H1 : ((laws_markChordS.f kj37 t645 1).bind fun bt657 => ((laws_heldChordS.f kj37 bt657.2 1).bind fun t659 => (if t659 < 0 then (some false) else (if t659 = bt657.1 then ((laws_toChordS.f kj37 l1).bind fun t660 => ((laws_toChord.f a2_0 a2_1).bind fun bt663 => ((impl_AddChord.f kj37 a0 t660 bt663.1 bt663.2).bind fun bt665 => ((laws_eqChordS.f kj37 bt665.1 t636).bind fun t669 => (if t669 = true then (laws_FnExactAddChord.j2 kj37 bt657.2 bt657.1 (bt665.2 != t639)) else (laws_FnExactAddChord.j2 kj37 bt657.2 bt657.1 true)))))) else (some false))))) = some r := by rw [if_neg (show ¬ (false = true) by decide)] at H; exact H
                  clear H
                  have H := H1
                  clear H1
                  replace H := Option.bind_eq_some_iff.mp H
                  obtain ⟨⟨t657, t658⟩, A530, H⟩ := H
                  replace H : ((laws_heldChordS.f kj37 t658 1).bind fun t659 => (if t659 < 0 then (some false) else (if t659 = t657 then ((laws_toChordS.f kj37 l1).bind fun t660 => ((laws_toChord.f a2_0 a2_1).bind fun bt663 => ((impl_AddChord.f kj37 a0 t660 bt663.1 bt663.2).bind fun bt665 => ((laws_eqChordS.f kj37 bt665.1 t636).bind fun t669 => (if t669 = true then (laws_FnExactAddChord.j2 kj37 t658 t657 (bt665.2 != t639)) else (laws_FnExactAddChord.j2 kj37 t658 t657 true)))))) else (some false)))) = some r := H
                  have A53 := Aside0.mk A530
                  clear A530
                  replace H := Option.bind_eq_some_iff.mp H
                  obtain ⟨t659, A540, H⟩ := H
                  replace H : (if t659 < 0 then (some false) else (if t659 = t657 then ((laws_toChordS.f kj37 l1).bind fun t660 => ((laws_toChord.f a2_0 a2_1).bind fun bt663 => ((impl_AddChord.f kj37 a0 t660 bt663.1 bt663.2).bind fun bt665 => ((laws_eqChordS.f kj37 bt665.1 t636).bind fun t669 => (if t669 = true then (laws_FnExactAddChord.j2 kj37 t658 t657 (bt665.2 != t639)) else (laws_FnExactAddChord.j2 kj37 t658 t657 true)))))) else (some false))) = some r := H
                  have A54 := Aside0.mk A540
                  clear A540
                  by_cases c55 : t659 < 0
                  · rw [if_pos c55] at H
                    have c55b0 : decide (t659 < 0) = true := decide_eq_true c55
                    clear c55
                    obtain rfl := Option.some.inj H
                    obtain ⟨Ao56, co56, eo56⟩ := Kd.R_slice HO_11.out
                    subst eo56
                    go_wp2_with (first | ((with_reducible refine gate_callee (f := 26) rfl ?_); refine goesL_ (some 74) rfl rfl Try.func26 (by kernel_rfl) rfl #[.slice Ao56 t645.length co56, .int .i64 1] rfl (by (try simp only [List.map_toArray, List.map_cons, List.map_nil]); first | done | rfl | (simp only [List.length_drop, List.length_take]; rfl)) ?_; (with_reducible refine (laws_markChordS.calls kj37 (fun k_ => some k_ = (.slice Ao56 t645.length co56 : Value).ownBlock) (.slice Ao56 t645.length co56) t645 1 t657 t658 w _ ?side1 ?side2 A53.out).mono ?_); (case side1 => repeat (first | (with_reducible first | exact HB.out | apply below_alloc | apply pw_below_drewN | apply below_drew1 | refine below_set ?_ GE629.out) | exact HB.out)); (case side2 => exact Kd.R_tight rfl HO_11.out); rintro e w57 ⟨rfl, hy0, hb, hkp⟩; refine ⟨_, rfl, ?_⟩; have n0_ := Aside0.mk (Kd.R_mono (ok' := fun k_ => some k_ ≠ (.slice Ao56 t645.length co56 : Value).ownBlock) (Kd.R_keptB (HO_8.out) hkp (fun k_ hk_ hs_ => (hk_) hs_)) (fun k_ hk_ => hk_.1)); have n1_ := Aside0.mk (Kd.R_reok rfl hy0 (fun k_ e_ => HO_11.out.1 k_ e_)); have n2_ := Aside0.mk (blk_kept (by (with_reducible repeat (first | refine blk_drewN ?_ _ | refine blk_drew ?_ | refine blk_alloc ?_ _)); exact BK629.out) hkp (fun hs_ => (fun e_ => (Kd.R_ne HO_11.out BK629.out (by decide)) e_) hs_)); have n3_ := Aside0.mk (hb); clear HO_8; clear HO_11; clear BK629; clear HB; have HO_8 := n0_; have HO_11 := n1_; have BK629 := n2_; have HB := n3_; clear n0_ n1_ n2_ n3_; (try clear hb); (try clear hkp); (try clear hy0)) | ((with_reducible refine gate_callee (f := 27) rfl ?_); refine goesL_ (some 77) rfl rfl Try.func27 (by kernel_rfl) rfl #[.slice Ao56 t658.length co56, .int .i64 1] rfl (by (try simp only [List.map_toArray, List.map_cons, List.map_nil]); first | done | (rw [show t658.length = t645.length from (Kd.R_reads' HO_11.out).1.symm] <;> rfl) | rfl | (simp only [List.length_drop, List.length_take]; rfl)) ?_; (with_reducible refine (laws_heldChordS.calls kj37 _ _ t658 1 t659 _ ?side1 ?side2 A54.out).mono ?_); (case side1 => repeat (first | exact (Kd.R_reads' HO_11.out).2.2 | (with_reducible refine Kd.C_alloc ?_ _) | (with_reducible refine Kd.C_drewN ?_ _) | (with_reducible refine Kd.C_drew ?_))); (case side2 => rw [show t658.length = t645.length from (Kd.R_reads' HO_11.out).1.symm]; exact (Kd.R_reads' HO_11.out).2.1); rintro e w' ⟨rfl, ⟨nd, rfl⟩⟩; refine ⟨_, rfl, ?_⟩))
                    go_ret
                    exact ⟨by first | rfl | (simp [errW_none, errW_some] <;> rfl) | (simp [*, errW_none, errW_some] <;> rfl), by repeat (first | (with_reducible first | exact HB.out | apply below_alloc | apply pw_below_drewN | apply below_drew1 | refine below_set ?_ GE629.out) | exact HB.out)⟩
                  · rw [if_neg c55] at H
                    have c55b0 : decide (t659 < 0) = false := decide_eq_false c55
                    clear c55
                    by_cases c58 : t659 = t657
                    · rw [if_pos c58] at H
                      have c58b0 : (t659 == t657) = true := beq_iff_eq.mpr c58
                      have c58b1 : (t659 != t657) = false := bne_eq_false_iff_eq.mpr c58
                      clear c58
                      replace H := Option.bind_eq_some_iff.mp H
                      obtain ⟨t660, A590, H⟩ := H
                      replace H : ((laws_toChord.f a2_0 a2_1).bind fun bt663 => ((impl_AddChord.f kj37 a0 t660 bt663.1 bt663.2).bind fun bt665 => ((laws_eqChordS.f kj37 bt665.1 t636).bind fun t669 => (if t669 = true then (laws_FnExactAddChord.j2 kj37 t658 t657 (bt665.2 != t639)) else (laws_FnExactAddChord.j2 kj37 t658 t657 true))))) = some r := H
                      have A59 := Aside0.mk A590
                      clear A590
                      replace H := Option.bind_eq_some_iff.mp H
                      obtain ⟨⟨t663, t664⟩, A600, H⟩ := H
                      replace H : ((impl_AddChord.f kj37 a0 t660 t663 t664).bind fun bt665 => ((laws_eqChordS.f kj37 bt665.1 t636).bind fun t669 => (if t669 = true then (laws_FnExactAddChord.j2 kj37 t658 t657 (bt665.2 != t639)) else (laws_FnExactAddChord.j2 kj37 t658 t657 true)))) = some r := H
                      have A60 := Aside0.mk A600
                      clear A600
                      replace H := Option.bind_eq_some_iff.mp H
                      obtain ⟨⟨t665, t668⟩, A610, H⟩ := H
                      replace H : ((laws_eqChordS.f kj37 t665 t636).bind fun t669 => (if t669 = true then (laws_FnExactAddChord.j2 kj37 t658 t657 (t668 != t639)) else (laws_FnExactAddChord.j2 kj37 t658 t657 true))) = some r := H
                      have A61 := Aside0.mk A610
                      clear A610
                      have HC62 := Aside0.mk H
                      clear H
                      obtain ⟨Ao63, co63, eo63⟩ := Kd.R_slice HO_11.out
                      subst eo63
                      try go_wp2_with (first | ((with_reducible refine gate_callee (f := 26) rfl ?_); refine goesL_ (some 74) rfl rfl Try.func26 (by kernel_rfl) rfl #[.slice Ao63 t645.length co63, .int .i64 1] rfl (by (try simp only [List.map_toArray, List.map_cons, List.map_nil]); first | done | rfl | (simp only [List.length_drop, List.length_take]; rfl)) ?_; (with_reducible refine (laws_markChordS.calls kj37 (fun k_ => some k_ = (.slice Ao63 t645.length co63 : Value).ownBlock) (.slice Ao63 t645.length co63) t645 1 t657 t658 w _ ?side1 ?side2 A53.out).mono ?_); (case side1 => repeat (first | (with_reducible first | exact HB.out | apply below_alloc | apply pw_below_drewN | apply below_drew1 | refine below_set ?_ GE629.out) | exact HB.out)); (case side2 => exact Kd.R_tight rfl HO_11.out); rintro e w64 ⟨rfl, hy0, hb, hkp⟩; refine ⟨_, rfl, ?_⟩; have n0_ := Aside0.mk (Kd.R_mono (ok' := fun k_ => some k_ ≠ (.slice Ao63 t645.length co63 : Value).ownBlock) (Kd.R_keptB (HO_8.out) hkp (fun k_ hk_ hs_ => (hk_) hs_)) (fun k_ hk_ => hk_.1)); have n1_ := Aside0.mk (Kd.R_reok rfl hy0 (fun k_ e_ => HO_11.out.1 k_ e_)); have n2_ := Aside0.mk (blk_kept (by (with_reducible repeat (first | refine blk_drewN ?_ _ | refine blk_drew ?_ | refine blk_alloc ?_ _)); exact BK629.out) hkp (fun hs_ => (fun e_ => (Kd.R_ne HO_11.out BK629.out (by decide)) e_) hs_)); have n3_ := Aside0.mk (hb); clear HO_8; clear HO_11; clear BK629; clear HB; have HO_8 := n0_; have HO_11 := n1_; have BK629 := n2_; have HB := n3_; clear n0_ n1_ n2_ n3_; (try clear hb); (try clear hkp); (try clear hy0)) | ((with_reducible refine gate_callee (f := 27) rfl ?_); refine goesL_ (some 77) rfl rfl Try.func27 (by kernel_rfl) rfl #[.slice Ao63 t658.length co63, .int .i64 1] rfl (by (try simp only [List.map_toArray, List.map_cons, List.map_nil]); first | done | (rw [show t658.length = t645.length from (Kd.R_reads' HO_11.out).1.symm] <;> rfl) | rfl | (simp only [List.length_drop, List.length_take]; rfl)) ?_; (with_reducible refine (laws_heldChordS.calls kj37 _ _ t658 1 t659 _ ?side1 ?side2 A54.out).mono ?_); (case side1 => repeat (first | exact (Kd.R_reads' HO_11.out).2.2 | (with_reducible refine Kd.C_alloc ?_ _) | (with_reducible refine Kd.C_drewN ?_ _) | (with_reducible refine Kd.C_drew ?_))); (case side2 => rw [show t658.length = t645.length from (Kd.R_reads' HO_11.out).1.symm]; exact (Kd.R_reads' HO_11.out).2.1); rintro e w' ⟨rfl, ⟨nd, rfl⟩⟩; refine ⟨_, rfl, ?_⟩))
                      (try (rw [drewN_self w64]; generalize hq_ : World.drewN w64 _ = w64; have n0_ : Aside0 (Kd.R k52 52 w64 w.heap.size (fun k_ => some k_ ≠ (v637 : Value).ownBlock) (.slice Ao63 t645.length co63) t658) := ⟨by rw [← hq_]; exact (by (with_reducible repeat (first | apply Kd.R_alloc | apply Kd.R_drewN | apply Kd.R_drew)); exact HO_11.out)⟩; have n1_ : Aside0 (Kd.R k52 52 w64 w.heap.size (fun k_ => some k_ ≠ (.slice Ao63 t645.length co63 : Value).ownBlock) v637 t636) := ⟨by rw [← hq_]; exact (by (with_reducible repeat (first | apply Kd.R_alloc | apply Kd.R_drewN | apply Kd.R_drew)); exact HO_8.out)⟩; have n2_ : Aside0 (w64.heap[gb629]? = some (.cells #[.int .i64 a2_0, .int .i64 a2_1] 50 (0, 0))) := ⟨by rw [← hq_]; exact (by (with_reducible repeat (first | refine blk_drewN ?_ _ | refine blk_drew ?_ | refine blk_alloc ?_ _)); exact BK629.out)⟩; have n3_ : Aside0 (Below w.heap.size w w64) := ⟨by rw [← hq_]; exact (by repeat (first | (with_reducible first | exact HB.out | apply below_alloc | apply pw_below_drewN | apply below_drew1 | refine below_set ?_ GE629.out) | exact HB.out))⟩; clear HO_11 HO_8 BK629 HB hq_; have HO_11 := n0_; have HO_8 := n1_; have BK629 := n2_; have HB := n3_; clear n0_ n1_ n2_ n3_))
                      have n0_ := Aside0.mk (Kd.R_drew HO_8.out)
                      have n1_ := Aside0.mk (Kd.R_drew HO_11.out)
                      have n2_ := Aside0.mk (blk_drew BK629.out)
                      have n3_ := Aside0.mk (below_drew1 HB.out)
                      clear HO_8
                      clear HO_11
                      clear BK629
                      clear HB
                      have HO_8 := n0_
                      have HO_11 := n1_
                      have BK629 := n2_
                      have HB := n3_
                      clear n0_ n1_ n2_ n3_
                      refine start_ (n := 11) (S := fun w' => w'.cell? ⟨gb629, 0, none⟩ = some (.int .i64 a2_0) ∧ w'.cell? ⟨gb629, 1, none⟩ = some (.int .i64 a2_1)) (ds := []) #[false, false, false, false, false, false, false, false, false, false, false] (by kernel_rfl) rfl rfl ⟨(blk_cell BK629.out 0).trans rfl, (blk_cell BK629.out 1).trans rfl⟩ (fun hHeld => ?_); refine with_tabW laws_FnExactAddChord.tab24 laws_FnExactAddChord.bits24 (fun HT_ HW_ => ?_)
                      generalize w64.drew = w65 at HO_8 HO_11 BK629 HB hHeld ⊢
                      refine pure_ (i := 0) (N := some 84) (v := ?_) (a' := ?_) #[true, false, false, false, false, false, false, false, false, false, false] rfl rfl (any_of HT_.out (by kernel_rfl)) (fun _ _ _ h => h) (Or.inl ⟨by rfl, ?_⟩) ?_ ?_
                      rotate_left
                      · intro w'
                        go_simp
                        with_reducible rfl
                      rotate_left
                      · simp only [Act.put, List.setIfInBounds_toArray, List.set_cons_zero, List.set_cons_succ, i64_w, i32_w]
                        rfl
                      refine pure_ (i := 1) (N := some 85) (v := ?_) (a' := ?_) #[true, true, false, false, false, false, false, false, false, false, false] rfl rfl (any_of HT_.out (by kernel_rfl)) (fun _ _ _ h => h) (Or.inl ⟨by rfl, ?_⟩) ?_ ?_
                      rotate_left
                      · intro w'
                        go_simp
                        with_reducible rfl
                      rotate_left
                      · simp only [Act.put, List.setIfInBounds_toArray, List.set_cons_zero, List.set_cons_succ, i64_w, i32_w]
                        rfl
                      refine take_ (i := 3) (N := some 87) (v := ?_) (a' := ?_) #[true, true, false, true, false, false, false, false, false, false, false] rfl rfl (take_ofW HT_.out HW_.out (by kernel_rfl)) (fun _ _ _ h => h) (Or.inl ⟨by rfl, ?_⟩) hHeld ?_ ?_
                      rotate_left
                      · rintro w' ⟨s0, s1⟩
                        go_simp
                        with_reducible rfl
                      rotate_left
                      · simp only [Act.put, List.setIfInBounds_toArray, List.set_cons_zero, List.set_cons_succ, i64_w, i32_w]
                        rfl
                      refine one_ (i := 2) (N := some 86) #[true, true, true, true, false, false, false, false, false, false, false] rfl rfl (one_of HT_.out (by kernel_rfl)) (by decide) (fun K hK => ?_)
                      refine goes_ Try.func17 (by kernel_rfl) rfl #[.slice A1 l1.length c1] (by rfl) rfl rfl (by (try simp only [List.map_toArray, List.map_cons, List.map_nil]); first | done | rfl | (simp only [List.length_drop, List.length_take]; rfl)) ?_
                      with_reducible refine (laws_toChordS.calls kj37 _ _ l1 t660 _ ?side1 ?side2 A59.out).mono ?_
                      (case side1 => repeat (first | exact (Kd.C_below HR1.out HB.out) | (with_reducible refine Kd.C_alloc ?_ _) | (with_reducible refine Kd.C_drewN ?_ _) | (with_reducible refine Kd.C_drew ?_)))
                      (case side2 => exact HC1.out)
                      rintro e w66 ⟨v661, rfl, ho0, hb⟩
                      refine ⟨_, rfl, ?_⟩
                      have n0_ := Aside0.mk (Kd.R_elder' (by (with_reducible repeat (first | apply Kd.R_alloc | apply Kd.R_drewN | apply Kd.R_drew)); exact HO_8.out) (Kd.R_base ho0) hb)
                      have n1_ := Aside0.mk (Kd.R_elder' (by (with_reducible repeat (first | apply Kd.R_alloc | apply Kd.R_drewN | apply Kd.R_drew)); exact HO_11.out) (Kd.R_base ho0) hb)
                      have n2_ := Aside0.mk (Kd.R_lower (Kd.R_new' (Kd.R_new' ho0 (Kd.R_lt (by (with_reducible repeat (first | apply Kd.R_alloc | apply Kd.R_drewN | apply Kd.R_drew)); exact HO_8.out))) (Kd.R_lt (by (with_reducible repeat (first | apply Kd.R_alloc | apply Kd.R_drewN | apply Kd.R_drew)); exact HO_11.out))) (below_size (by repeat (first | (with_reducible first | exact HB.out | apply below_alloc | apply pw_below_drewN | apply below_drew1 | refine below_set ?_ GE629.out) | exact HB.out))))
                      have n3_ := Aside0.mk (blk_below (g := gb629) (o := .cells #[.int .i64 a2_0, .int .i64 a2_1] 50 (0, 0)) (by (with_reducible repeat (first | refine blk_drewN ?_ _ | refine blk_drew ?_ | refine blk_alloc ?_ _)); exact BK629.out) hb)
                      have n4_ := Aside0.mk (below_step (by repeat (first | (with_reducible first | exact HB.out | apply below_alloc | apply pw_below_drewN | apply below_drew1 | refine below_set ?_ GE629.out) | exact HB.out)) hb)
                      clear HO_8
                      clear HO_11
                      clear BK629
                      clear HB
                      have HO_8 := n0_
                      have HO_11 := n1_
                      have HO662 := n2_
                      have BK629 := n3_
                      have HB := n4_
                      clear n0_ n1_ n2_ n3_ n4_
                      (try clear hb)
                      (try clear hb2)
                      (try clear hk)
                      (try clear hi)
                      (try clear ho0)
                      refine hK.out _ _ ⟨(blk_cell BK629.out 0).trans rfl, (blk_cell BK629.out 1).trans rfl⟩ (fun hHeld => ?_)
                      clear hK K
                      refine norm_ (a' := ?_) ?_ ?_
                      rotate_left
                      · show Act.put _ (some 86) _ = _
                        simp only [Act.put, List.setIfInBounds_toArray, List.set_cons_zero, List.set_cons_succ, i64_w, i32_w]
                        rfl
                      refine one_ (i := 4) (N := some 88) #[true, true, true, true, true, false, false, false, false, false, false] rfl rfl (one_of HT_.out (by kernel_rfl)) (by decide) (fun K hK => ?_)
                      refine goes_ Try.func47 (by kernel_rfl) rfl #[.agg #[.int .i64 a2_0, .int .i64 a2_1]] (by rfl) rfl rfl (by (try simp only [List.map_toArray, List.map_cons, List.map_nil]); first | done | rfl | (simp only [List.length_drop, List.length_take]; rfl)) ?_
                      with_reducible refine (laws_toChord.calls a2_0 a2_1 t663 t664 _ A60.out).mono ?_
                      rintro e w67 ⟨rfl, hb⟩
                      refine ⟨_, rfl, ?_⟩
                      have n0_ := Aside0.mk (Kd.R_below (by (with_reducible repeat (first | apply Kd.R_alloc | apply Kd.R_drewN | apply Kd.R_drew)); exact HO_8.out) hb)
                      have n1_ := Aside0.mk (Kd.R_below (by (with_reducible repeat (first | apply Kd.R_alloc | apply Kd.R_drewN | apply Kd.R_drew)); exact HO_11.out) hb)
                      have n2_ := Aside0.mk (Kd.R_below (by (with_reducible repeat (first | apply Kd.R_alloc | apply Kd.R_drewN | apply Kd.R_drew)); exact HO662.out) hb)
                      have n3_ := Aside0.mk (blk_below (g := gb629) (o := .cells #[.int .i64 a2_0, .int .i64 a2_1] 50 (0, 0)) (by (with_reducible repeat (first | refine blk_drewN ?_ _ | refine blk_drew ?_ | refine blk_alloc ?_ _)); exact BK629.out) hb)
                      have n4_ := Aside0.mk (below_step (by repeat (first | (with_reducible first | exact HB.out | apply below_alloc | apply pw_below_drewN | apply below_drew1 | refine below_set ?_ GE629.out) | exact HB.out)) hb)
                      clear HO_8
                      clear HO_11
                      clear HO662
                      clear BK629
                      clear HB
                      have HO_8 := n0_
                      have HO_11 := n1_
                      have HO662 := n2_
                      have BK629 := n3_
                      have HB := n4_
                      clear n0_ n1_ n2_ n3_ n4_
                      (try clear hb)
                      (try clear hb2)
                      (try clear hk)
                      (try clear hi)
                      obtain ⟨Ao68, co68, eo68⟩ := Kd.R_slice HO662.out
                      (first | subst eo68 | (injection eo68 with f1_ f2_ f3_; have f4_ := f1_.symm; have f5_ := f3_.symm; clear f1_ f2_ f3_; subst f4_; subst f5_))
                      refine hK.out _ _ ⟨(blk_cell BK629.out 0).trans rfl, (blk_cell BK629.out 1).trans rfl⟩ (fun hHeld => ?_)
                      clear hK K
                      refine norm_ (a' := ?_) ?_ ?_
                      rotate_left
                      · show Act.put _ (some 88) _ = _
                        simp only [Act.put, List.setIfInBounds_toArray, List.set_cons_zero, List.set_cons_succ, i64_w, i32_w]
                        rfl
                      refine one_ (i := 5) (N := some 89) #[true, true, true, true, true, true, false, false, false, false, false] rfl rfl (one_of HT_.out (by kernel_rfl)) (by decide) (fun K hK => ?_)
                      refine goes_ Try.func48 (by kernel_rfl) rfl #[.int .i64 a0, .slice Ao68 t660.length co68, .agg #[.int .i64 t663, .int .i64 t664]] (by rfl) rfl rfl (by (try simp only [List.map_toArray, List.map_cons, List.map_nil]); first | done | rfl | (simp only [List.length_drop, List.length_take]; rfl)) ?_
                      with_reducible refine (impl_AddChord.calls kj37 a0 _ _ t660 t663 t664 t665 t668 _ ?side1 ?side2 A61.out).mono ?_
                      (case side1 => repeat (first | exact (Kd.R_reads' HO662.out).2.2 | (with_reducible refine Kd.C_alloc ?_ _) | (with_reducible refine Kd.C_drewN ?_ _) | (with_reducible refine Kd.C_drew ?_)))
                      (case side2 => exact (Kd.R_reads' HO662.out).2.1)
                      rintro e w69 ⟨v666, rfl, ho0, hb⟩
                      refine ⟨_, rfl, ?_⟩
                      have n0_ := Aside0.mk (Kd.R_elder' (by (with_reducible repeat (first | apply Kd.R_alloc | apply Kd.R_drewN | apply Kd.R_drew)); exact HO_8.out) (Kd.R_base ho0) hb)
                      have n1_ := Aside0.mk (Kd.R_elder' (by (with_reducible repeat (first | apply Kd.R_alloc | apply Kd.R_drewN | apply Kd.R_drew)); exact HO_11.out) (Kd.R_base ho0) hb)
                      have n2_ := Aside0.mk (Kd.R_elder' (by (with_reducible repeat (first | apply Kd.R_alloc | apply Kd.R_drewN | apply Kd.R_drew)); exact HO662.out) (Kd.R_base ho0) hb)
                      have n3_ := Aside0.mk (Kd.R_lower (Kd.R_new' (Kd.R_new' (Kd.R_new' ho0 (Kd.R_lt (by (with_reducible repeat (first | apply Kd.R_alloc | apply Kd.R_drewN | apply Kd.R_drew)); exact HO_8.out))) (Kd.R_lt (by (with_reducible repeat (first | apply Kd.R_alloc | apply Kd.R_drewN | apply Kd.R_drew)); exact HO_11.out))) (Kd.R_lt (by (with_reducible repeat (first | apply Kd.R_alloc | apply Kd.R_drewN | apply Kd.R_drew)); exact HO662.out))) (below_size (by repeat (first | (with_reducible first | exact HB.out | apply below_alloc | apply pw_below_drewN | apply below_drew1 | refine below_set ?_ GE629.out) | exact HB.out))))
                      have n4_ := Aside0.mk (blk_below (g := gb629) (o := .cells #[.int .i64 a2_0, .int .i64 a2_1] 50 (0, 0)) (by (with_reducible repeat (first | refine blk_drewN ?_ _ | refine blk_drew ?_ | refine blk_alloc ?_ _)); exact BK629.out) hb)
                      have n5_ := Aside0.mk (below_step (by repeat (first | (with_reducible first | exact HB.out | apply below_alloc | apply pw_below_drewN | apply below_drew1 | refine below_set ?_ GE629.out) | exact HB.out)) hb)
                      clear HO_8
                      clear HO_11
                      clear HO662
                      clear BK629
                      clear HB
                      have HO_8 := n0_
                      have HO_11 := n1_
                      have HO662 := n2_
                      have HO667 := n3_
                      have BK629 := n4_
                      have HB := n5_
                      clear n0_ n1_ n2_ n3_ n4_ n5_
                      (try clear hb)
                      (try clear hb2)
                      (try clear hk)
                      (try clear hi)
                      (try clear ho0)
                      refine hK.out _ _ ⟨(blk_cell BK629.out 0).trans rfl, (blk_cell BK629.out 1).trans rfl⟩ (fun hHeld => ?_)
                      clear hK K
                      refine norm_ (a' := ?_) ?_ ?_
                      rotate_left
                      · show Act.put _ (some 89) _ = _
                        simp only [Act.put, List.setIfInBounds_toArray, List.set_cons_zero, List.set_cons_succ, i64_w, i32_w]
                        rfl
                      refine pure_ (i := 6) (N := some 83) (v := ?_) (a' := ?_) #[true, true, true, true, true, true, true, false, false, false, false] rfl rfl (any_of HT_.out (by kernel_rfl)) (fun _ _ _ h => h) (Or.inl ⟨by rfl, ?_⟩) ?_ ?_
                      rotate_left
                      · intro w'
                        go_simp
                        with_reducible rfl
                      rotate_left
                      · simp only [Act.put, List.setIfInBounds_toArray, List.set_cons_zero, List.set_cons_succ, i64_w, i32_w]
                        rfl
                      refine pure_ (i := 7) (N := some 90) (v := ?_) (a' := ?_) #[true, true, true, true, true, true, true, true, false, false, false] rfl rfl (any_of HT_.out (by kernel_rfl)) (fun _ _ _ h => h) (Or.inl ⟨by rfl, ?_⟩) ?_ ?_
                      rotate_left
                      · intro w'
                        go_simp
                        with_reducible rfl
                      rotate_left
                      · simp only [Act.put, List.setIfInBounds_toArray, List.set_cons_zero, List.set_cons_succ, i64_w, i32_w]
                        rfl
                      refine pure_ (i := 8) (N := some 91) (v := ?_) (a' := ?_) #[true, true, true, true, true, true, true, true, true, false, false] rfl rfl (any_of HT_.out (by kernel_rfl)) (fun _ _ _ h => h) (Or.inl ⟨by rfl, ?_⟩) ?_ ?_
                      rotate_left
                      · intro w'
                        go_simp
                        with_reducible rfl
                      rotate_left
                      · simp only [Act.put, List.setIfInBounds_toArray, List.set_cons_zero, List.set_cons_succ, i64_w, i32_w]
                        rfl
                      refine pure_ (i := 9) (N := some 16) (v := ?_) (a' := ?_) #[true, true, true, true, true, true, true, true, true, true, false] rfl rfl (any_of HT_.out (by kernel_rfl)) (fun _ _ _ h => h) (Or.inl ⟨by rfl, ?_⟩) ?_ ?_
                      rotate_left
                      · intro w'
                        go_simp
                        with_reducible rfl
                      rotate_left
                      · simp only [Act.put, List.setIfInBounds_toArray, List.set_cons_zero, List.set_cons_succ, i64_w, i32_w]
                        rfl
                      refine pure_ (i := 10) (N := some 17) (v := ?_) (a' := ?_) #[true, true, true, true, true, true, true, true, true, true, true] rfl rfl (any_of HT_.out (by kernel_rfl)) (fun _ _ _ h => h) (Or.inl ⟨by rfl, ?_⟩) ?_ ?_
                      rotate_left
                      · intro w'
                        go_simp
                        with_reducible rfl
                      rotate_left
                      · simp only [Act.put, List.setIfInBounds_toArray, List.set_cons_zero, List.set_cons_succ, i64_w, i32_w]
                        rfl
                      refine done_ (done_of HT_.out (by kernel_rfl)) ?_
                      go_upto_region 25 with (fail)
                      go_cut [100] (fun v100 wc => ∃ (kq : Nat) (x100_61 : Bool), v100 = .bool x100_61 ∧ Aside0 (laws_FnExactAddChord.j2 kq t658 t657 x100_61 = some r) ∧ Aside0 (kq ≤ kj37) ∧ Aside0 (Kd.R k52 52 wc w.heap.size (fun _ => True) (.slice Ao63 t645.length co63) t658) ∧ Aside0 (wc.heap[gb629]? = some (.cells #[.int .i64 a2_0, .int .i64 a2_1] 50 (0, 0))) ∧ Aside0 (Below w.heap.size w wc))
                      case first =>
                        have H := HC62.out
                        clear HC62
                        replace H := Option.bind_eq_some_iff.mp H
                        obtain ⟨t669, A700, H⟩ := H
                        replace H : (if t669 = true then (laws_FnExactAddChord.j2 kj37 t658 t657 (t668 != t639)) else (laws_FnExactAddChord.j2 kj37 t658 t657 true)) = some r := H
                        have A70 := Aside0.mk A700
                        clear A700
                        by_cases c71 : t669 = true
                        · subst c71
                          have H1 : (laws_FnExactAddChord.j2 kj37 t658 t657 (t668 != t639)) = some r := by rw [if_pos rfl] at H; exact H
                          clear H
                          have H := H1
                          clear H1
                          have H' := Aside0.mk H
                          clear H
                          obtain ⟨Ao72, co72, eo72⟩ := Kd.R_slice HO667.out
                          subst eo72
                          obtain ⟨Ao73, co73, eo73⟩ := Kd.R_slice HO_8.out
                          subst eo73
                          go_wp2_with (first | ((with_reducible refine gate_callee (f := 19) rfl ?_); refine goesL_ (some 94) rfl rfl Try.func19 (by kernel_rfl) rfl #[.slice Ao72 t665.length co72, .slice Ao73 t636.length co73] rfl (by (try simp only [List.map_toArray, List.map_cons, List.map_nil]); first | done | rfl | (simp only [List.length_drop, List.length_take]; rfl)) ?_; (with_reducible refine (laws_eqChordS.calls kj37 _ _ t665 _ _ t636 true _ ?side1 ?side2 ?side3 ?side4 A70.out).mono ?_); (case side1 => repeat (first | exact (Kd.R_reads' HO667.out).2.2 | (with_reducible refine Kd.C_alloc ?_ _) | (with_reducible refine Kd.C_drewN ?_ _) | (with_reducible refine Kd.C_drew ?_))); (case side2 => exact (Kd.R_reads' HO667.out).2.1); (case side3 => repeat (first | exact (Kd.R_reads' HO_8.out).2.2 | (with_reducible refine Kd.C_alloc ?_ _) | (with_reducible refine Kd.C_drewN ?_ _) | (with_reducible refine Kd.C_drew ?_))); (case side4 => exact (Kd.R_reads' HO_8.out).2.1); rintro e w74 ⟨rfl, hb⟩; refine ⟨_, rfl, ?_⟩; have n0_ := Aside0.mk (Kd.R_below (by (with_reducible repeat (first | apply Kd.R_alloc | apply Kd.R_drewN | apply Kd.R_drew)); exact HO_8.out) hb); have n1_ := Aside0.mk (Kd.R_below (by (with_reducible repeat (first | apply Kd.R_alloc | apply Kd.R_drewN | apply Kd.R_drew)); exact HO_11.out) hb); have n2_ := Aside0.mk (Kd.R_below (by (with_reducible repeat (first | apply Kd.R_alloc | apply Kd.R_drewN | apply Kd.R_drew)); exact HO662.out) hb); have n3_ := Aside0.mk (Kd.R_below (by (with_reducible repeat (first | apply Kd.R_alloc | apply Kd.R_drewN | apply Kd.R_drew)); exact HO667.out) hb); have n4_ := Aside0.mk (blk_below (g := gb629) (o := .cells #[.int .i64 a2_0, .int .i64 a2_1] 50 (0, 0)) (by (with_reducible repeat (first | refine blk_drewN ?_ _ | refine blk_drew ?_ | refine blk_alloc ?_ _)); exact BK629.out) hb); have n5_ := Aside0.mk (below_step (by repeat (first | (with_reducible first | exact HB.out | apply below_alloc | apply pw_below_drewN | apply below_drew1 | refine below_set ?_ GE629.out) | exact HB.out)) hb); clear HO_8; clear HO_11; clear HO662; clear HO667; clear BK629; clear HB; have HO_8 := n0_; have HO_11 := n1_; have HO662 := n2_; have HO667 := n3_; have BK629 := n4_; have HB := n5_; clear n0_ n1_ n2_ n3_ n4_ n5_; (try clear hb); (try clear hb2); (try clear hk); (try clear hi)))
                          go_meet
                          case rel => exact ⟨_, ((t668 != t639)), (by first | rfl | (simp; done) | (simp [*]; done)), H', ⟨by have := HJ12.out; have := HJ37.out; first | omega | exact Nat.le_refl _⟩, ⟨by (with_reducible repeat (first | apply Kd.R_alloc | apply Kd.R_drewN | apply Kd.R_drew)); exact Kd.R_mono HO_11.out (fun _ hk => trivial)⟩, ⟨by (with_reducible repeat (first | refine blk_drewN ?_ _ | refine blk_drew ?_ | refine blk_alloc ?_ _)); exact BK629.out⟩, ⟨by repeat (first | (with_reducible first | exact HB.out | apply below_alloc | apply pw_below_drewN | apply below_drew1 | refine below_set ?_ GE629.out) | exact HB.out)⟩⟩
                        · replace c71 := Bool.eq_false_iff.mpr c71
                          subst c71
                          have H1 : (laws_FnExactAddChord.j2 kj37 t658 t657 true) = some r := by rw [if_neg (show ¬ (false = true) by decide)] at H; exact H
                          clear H
                          have H := H1
                          clear H1
                          have H' := Aside0.mk H
                          clear H
                          obtain ⟨Ao75, co75, eo75⟩ := Kd.R_slice HO667.out
                          subst eo75
                          obtain ⟨Ao76, co76, eo76⟩ := Kd.R_slice HO_8.out
                          subst eo76
                          go_wp2_with (first | ((with_reducible refine gate_callee (f := 19) rfl ?_); refine goesL_ (some 94) rfl rfl Try.func19 (by kernel_rfl) rfl #[.slice Ao75 t665.length co75, .slice Ao76 t636.length co76] rfl (by (try simp only [List.map_toArray, List.map_cons, List.map_nil]); first | done | rfl | (simp only [List.length_drop, List.length_take]; rfl)) ?_; (with_reducible refine (laws_eqChordS.calls kj37 _ _ t665 _ _ t636 false _ ?side1 ?side2 ?side3 ?side4 A70.out).mono ?_); (case side1 => repeat (first | exact (Kd.R_reads' HO667.out).2.2 | (with_reducible refine Kd.C_alloc ?_ _) | (with_reducible refine Kd.C_drewN ?_ _) | (with_reducible refine Kd.C_drew ?_))); (case side2 => exact (Kd.R_reads' HO667.out).2.1); (case side3 => repeat (first | exact (Kd.R_reads' HO_8.out).2.2 | (with_reducible refine Kd.C_alloc ?_ _) | (with_reducible refine Kd.C_drewN ?_ _) | (with_reducible refine Kd.C_drew ?_))); (case side4 => exact (Kd.R_reads' HO_8.out).2.1); rintro e w77 ⟨rfl, hb⟩; refine ⟨_, rfl, ?_⟩; have n0_ := Aside0.mk (Kd.R_below (by (with_reducible repeat (first | apply Kd.R_alloc | apply Kd.R_drewN | apply Kd.R_drew)); exact HO_8.out) hb); have n1_ := Aside0.mk (Kd.R_below (by (with_reducible repeat (first | apply Kd.R_alloc | apply Kd.R_drewN | apply Kd.R_drew)); exact HO_11.out) hb); have n2_ := Aside0.mk (Kd.R_below (by (with_reducible repeat (first | apply Kd.R_alloc | apply Kd.R_drewN | apply Kd.R_drew)); exact HO662.out) hb); have n3_ := Aside0.mk (Kd.R_below (by (with_reducible repeat (first | apply Kd.R_alloc | apply Kd.R_drewN | apply Kd.R_drew)); exact HO667.out) hb); have n4_ := Aside0.mk (blk_below (g := gb629) (o := .cells #[.int .i64 a2_0, .int .i64 a2_1] 50 (0, 0)) (by (with_reducible repeat (first | refine blk_drewN ?_ _ | refine blk_drew ?_ | refine blk_alloc ?_ _)); exact BK629.out) hb); have n5_ := Aside0.mk (below_step (by repeat (first | (with_reducible first | exact HB.out | apply below_alloc | apply pw_below_drewN | apply below_drew1 | refine below_set ?_ GE629.out) | exact HB.out)) hb); clear HO_8; clear HO_11; clear HO662; clear HO667; clear BK629; clear HB; have HO_8 := n0_; have HO_11 := n1_; have HO662 := n2_; have HO667 := n3_; have BK629 := n4_; have HB := n5_; clear n0_ n1_ n2_ n3_ n4_ n5_; (try clear hb); (try clear hb2); (try clear hk); (try clear hi)))
                          go_meet
                          case rel => exact ⟨_, (true), (by first | rfl | (simp; done) | (simp [*]; done)), H', ⟨by have := HJ12.out; have := HJ37.out; first | omega | exact Nat.le_refl _⟩, ⟨by (with_reducible repeat (first | apply Kd.R_alloc | apply Kd.R_drewN | apply Kd.R_drew)); exact Kd.R_mono HO_11.out (fun _ hk => trivial)⟩, ⟨by (with_reducible repeat (first | refine blk_drewN ?_ _ | refine blk_drew ?_ | refine blk_alloc ?_ _)); exact BK629.out⟩, ⟨by repeat (first | (with_reducible first | exact HB.out | apply below_alloc | apply pw_below_drewN | apply below_drew1 | refine below_set ?_ GE629.out) | exact HB.out)⟩⟩
                      case rest =>
                        clear HC62
                        try clear c1
                        try clear c2
                        try clear p2
                        try clear c3
                        try clear c4
                        try clear c5
                        try clear c5b0
                        try clear c7
                        try clear c13
                        try clear c15
                        try clear c17
                        try clear c19
                        try clear c26
                        try clear c27
                        try clear c33
                        try clear c36
                        try clear c43
                        try clear c43b0
                        try clear c45
                        try clear c46
                        try clear c47
                        try clear c48
                        try clear c52
                        try clear c55
                        try clear c55b0
                        try clear c58
                        try clear c58b0
                        try clear c58b1
                        try clear c71
                        try clear hcz21_0
                        try clear hcz21_1
                        try clear hfz21_0
                        try clear hfz21_1
                        try clear p2
                        obtain ⟨kq, x100_61, rfl, HA, HJ61, HO_11, BK629, HB⟩ := hcut
                        have hl11_61 := (Kd.R_reads' HO_11.out).1
                        rw [hl11_61] at HO_11
                        (try simp only [hl11_61])
                        (try simp only [hl11_61] at BK629)
                        cases kq with
                        | zero => exact absurd HA.out (by simp [laws_FnExactAddChord.j2])
                        | succ kj61 =>
                          have H := HA.out
                          clear HA
                          simp only [laws_FnExactAddChord.j2] at H
                          by_cases c78 : x100_61 = true
                          · subst c78
                            have H1 : (some false) = some r := by rw [if_pos rfl] at H; exact H
                            clear H
                            have H := H1
                            clear H1
                            obtain rfl := Option.some.inj H
                            go_wp2
                            go_ret
                            exact ⟨by first | rfl | (simp [errW_none, errW_some] <;> rfl) | (simp [*, errW_none, errW_some] <;> rfl), by repeat (first | (with_reducible first | exact HB.out | apply below_alloc | apply pw_below_drewN | apply below_drew1 | refine below_set ?_ GE629.out) | exact HB.out)⟩
                          · replace c78 := Bool.eq_false_iff.mpr c78
                            subst c78
                            have H1 : ((laws_heldChordS.f kj61 t658 1).bind fun t670 => (if t670 < 0 then (some false) else (if t670 = t657 then (some true) else (some false)))) = some r := by rw [if_neg (show ¬ (false = true) by decide)] at H; exact H
                            clear H
                            have H := H1
                            clear H1
                            replace H := Option.bind_eq_some_iff.mp H
                            obtain ⟨t670, A790, H⟩ := H
                            replace H : (if t670 < 0 then (some false) else (if t670 = t657 then (some true) else (some false))) = some r := H
                            have A79 := Aside0.mk A790
                            clear A790
                            by_cases c80 : t670 < 0
                            · rw [if_pos c80] at H
                              have c80b0 : decide (t670 < 0) = true := decide_eq_true c80
                              clear c80
                              obtain rfl := Option.some.inj H
                              go_wp2_with (first | ((with_reducible refine gate_callee (f := 27) rfl ?_); refine goesL_ (some 103) rfl rfl Try.func27 (by kernel_rfl) rfl #[.slice Ao63 t658.length co63, .int .i64 1] rfl (by (try simp only [List.map_toArray, List.map_cons, List.map_nil]); first | done | rfl | (simp only [List.length_drop, List.length_take]; rfl)) ?_; (with_reducible refine (laws_heldChordS.calls kj61 _ _ t658 1 t670 _ ?side1 ?side2 A79.out).mono ?_); (case side1 => repeat (first | exact (Kd.R_reads' HO_11.out).2.2 | (with_reducible refine Kd.C_alloc ?_ _) | (with_reducible refine Kd.C_drewN ?_ _) | (with_reducible refine Kd.C_drew ?_))); (case side2 => exact (Kd.R_reads' HO_11.out).2.1); rintro e w' ⟨rfl, ⟨nd, rfl⟩⟩; refine ⟨_, rfl, ?_⟩))
                              go_ret
                              exact ⟨by first | rfl | (simp [errW_none, errW_some] <;> rfl) | (simp [*, errW_none, errW_some] <;> rfl), by repeat (first | (with_reducible first | exact HB.out | apply below_alloc | apply pw_below_drewN | apply below_drew1 | refine below_set ?_ GE629.out) | exact HB.out)⟩
                            · rw [if_neg c80] at H
                              have c80b0 : decide (t670 < 0) = false := decide_eq_false c80
                              clear c80
                              by_cases c81 : t670 = t657
                              · rw [if_pos c81] at H
                                have c81b0 : (t670 == t657) = true := beq_iff_eq.mpr c81
                                have c81b1 : (t670 != t657) = false := bne_eq_false_iff_eq.mpr c81
                                clear c81
                                obtain rfl := Option.some.inj H
                                go_wp2_with (first | ((with_reducible refine gate_callee (f := 27) rfl ?_); refine goesL_ (some 103) rfl rfl Try.func27 (by kernel_rfl) rfl #[.slice Ao63 t658.length co63, .int .i64 1] rfl (by (try simp only [List.map_toArray, List.map_cons, List.map_nil]); first | done | rfl | (simp only [List.length_drop, List.length_take]; rfl)) ?_; (with_reducible refine (laws_heldChordS.calls kj61 _ _ t658 1 t670 _ ?side1 ?side2 A79.out).mono ?_); (case side1 => repeat (first | exact (Kd.R_reads' HO_11.out).2.2 | (with_reducible refine Kd.C_alloc ?_ _) | (with_reducible refine Kd.C_drewN ?_ _) | (with_reducible refine Kd.C_drew ?_))); (case side2 => exact (Kd.R_reads' HO_11.out).2.1); rintro e w' ⟨rfl, ⟨nd, rfl⟩⟩; refine ⟨_, rfl, ?_⟩))
                                go_ret
                                exact ⟨by first | rfl | (simp [errW_none, errW_some] <;> rfl) | (simp [*, errW_none, errW_some] <;> rfl), by repeat (first | (with_reducible first | exact HB.out | apply below_alloc | apply pw_below_drewN | apply below_drew1 | refine below_set ?_ GE629.out) | exact HB.out)⟩
                              · rw [if_neg c81] at H
                                have c81b0 : (t670 == t657) = false := beq_eq_false_iff_ne.mpr c81
                                have c81b1 : (t670 != t657) = true := bne_iff_ne.mpr c81
                                obtain rfl := Option.some.inj H
                                go_wp2_with (first | ((with_reducible refine gate_callee (f := 27) rfl ?_); refine goesL_ (some 103) rfl rfl Try.func27 (by kernel_rfl) rfl #[.slice Ao63 t658.length co63, .int .i64 1] rfl (by (try simp only [List.map_toArray, List.map_cons, List.map_nil]); first | done | rfl | (simp only [List.length_drop, List.length_take]; rfl)) ?_; (with_reducible refine (laws_heldChordS.calls kj61 _ _ t658 1 t670 _ ?side1 ?side2 A79.out).mono ?_); (case side1 => repeat (first | exact (Kd.R_reads' HO_11.out).2.2 | (with_reducible refine Kd.C_alloc ?_ _) | (with_reducible refine Kd.C_drewN ?_ _) | (with_reducible refine Kd.C_drew ?_))); (case side2 => exact (Kd.R_reads' HO_11.out).2.1); rintro e w' ⟨rfl, ⟨nd, rfl⟩⟩; refine ⟨_, rfl, ?_⟩))
                                go_ret
                                exact ⟨by first | rfl | (simp [errW_none, errW_some] <;> rfl) | (simp [*, errW_none, errW_some] <;> rfl), by repeat (first | (with_reducible first | exact HB.out | apply below_alloc | apply pw_below_drewN | apply below_drew1 | refine below_set ?_ GE629.out) | exact HB.out)⟩
                    · rw [if_neg c58] at H
                      have c58b0 : (t659 == t657) = false := beq_eq_false_iff_ne.mpr c58
                      have c58b1 : (t659 != t657) = true := bne_iff_ne.mpr c58
                      obtain rfl := Option.some.inj H
                      obtain ⟨Ao82, co82, eo82⟩ := Kd.R_slice HO_11.out
                      subst eo82
                      go_wp2_with (first | ((with_reducible refine gate_callee (f := 26) rfl ?_); refine goesL_ (some 74) rfl rfl Try.func26 (by kernel_rfl) rfl #[.slice Ao82 t645.length co82, .int .i64 1] rfl (by (try simp only [List.map_toArray, List.map_cons, List.map_nil]); first | done | rfl | (simp only [List.length_drop, List.length_take]; rfl)) ?_; (with_reducible refine (laws_markChordS.calls kj37 (fun k_ => some k_ = (.slice Ao82 t645.length co82 : Value).ownBlock) (.slice Ao82 t645.length co82) t645 1 t657 t658 w _ ?side1 ?side2 A53.out).mono ?_); (case side1 => repeat (first | (with_reducible first | exact HB.out | apply below_alloc | apply pw_below_drewN | apply below_drew1 | refine below_set ?_ GE629.out) | exact HB.out)); (case side2 => exact Kd.R_tight rfl HO_11.out); rintro e w83 ⟨rfl, hy0, hb, hkp⟩; refine ⟨_, rfl, ?_⟩; have n0_ := Aside0.mk (Kd.R_mono (ok' := fun k_ => some k_ ≠ (.slice Ao82 t645.length co82 : Value).ownBlock) (Kd.R_keptB (HO_8.out) hkp (fun k_ hk_ hs_ => (hk_) hs_)) (fun k_ hk_ => hk_.1)); have n1_ := Aside0.mk (Kd.R_reok rfl hy0 (fun k_ e_ => HO_11.out.1 k_ e_)); have n2_ := Aside0.mk (blk_kept (by (with_reducible repeat (first | refine blk_drewN ?_ _ | refine blk_drew ?_ | refine blk_alloc ?_ _)); exact BK629.out) hkp (fun hs_ => (fun e_ => (Kd.R_ne HO_11.out BK629.out (by decide)) e_) hs_)); have n3_ := Aside0.mk (hb); clear HO_8; clear HO_11; clear BK629; clear HB; have HO_8 := n0_; have HO_11 := n1_; have BK629 := n2_; have HB := n3_; clear n0_ n1_ n2_ n3_; (try clear hb); (try clear hkp); (try clear hy0)) | ((with_reducible refine gate_callee (f := 27) rfl ?_); refine goesL_ (some 77) rfl rfl Try.func27 (by kernel_rfl) rfl #[.slice Ao82 t658.length co82, .int .i64 1] rfl (by (try simp only [List.map_toArray, List.map_cons, List.map_nil]); first | done | (rw [show t658.length = t645.length from (Kd.R_reads' HO_11.out).1.symm] <;> rfl) | rfl | (simp only [List.length_drop, List.length_take]; rfl)) ?_; (with_reducible refine (laws_heldChordS.calls kj37 _ _ t658 1 t659 _ ?side1 ?side2 A54.out).mono ?_); (case side1 => repeat (first | exact (Kd.R_reads' HO_11.out).2.2 | (with_reducible refine Kd.C_alloc ?_ _) | (with_reducible refine Kd.C_drewN ?_ _) | (with_reducible refine Kd.C_drew ?_))); (case side2 => rw [show t658.length = t645.length from (Kd.R_reads' HO_11.out).1.symm]; exact (Kd.R_reads' HO_11.out).2.1); rintro e w' ⟨rfl, ⟨nd, rfl⟩⟩; refine ⟨_, rfl, ?_⟩))
                      go_ret
                      exact ⟨by first | rfl | (simp [errW_none, errW_some] <;> rfl) | (simp [*, errW_none, errW_some] <;> rfl), by repeat (first | (with_reducible first | exact HB.out | apply below_alloc | apply pw_below_drewN | apply below_drew1 | refine below_set ?_ GE629.out) | exact HB.out)⟩
          · replace c36 := Bool.eq_false_iff.mpr c36
            subst c36
            have H1 : (some false) = some r := by rw [if_neg (show ¬ (false = true) by decide)] at H; exact H
            clear H
            have H := H1
            clear H1
            obtain rfl := Option.some.inj H
            go_wp2_with (first | ((with_reducible refine gate_callee (f := 17) rfl ?_); refine goesL_ (some 53) rfl rfl Try.func17 (by kernel_rfl) rfl #[.slice A1 l1.length c1] rfl (by (try simp only [List.map_toArray, List.map_cons, List.map_nil]); first | done | rfl | (simp only [List.length_drop, List.length_take]; rfl)) ?_; (with_reducible refine (laws_toChordS.calls kj12 _ _ l1 t650 _ ?side1 ?side2 A34.out).mono ?_); (case side1 => repeat (first | exact (Kd.C_below HR1.out HB.out) | (with_reducible refine Kd.C_alloc ?_ _) | (with_reducible refine Kd.C_drewN ?_ _) | (with_reducible refine Kd.C_drew ?_))); (case side2 => exact HC1.out); rintro e w84 ⟨v651, rfl, ho0, hb⟩; refine ⟨_, rfl, ?_⟩; have n0_ := Aside0.mk (Kd.R_elder' (by (with_reducible repeat (first | apply Kd.R_alloc | apply Kd.R_drewN | apply Kd.R_drew)); exact HO_8.out) (Kd.R_base ho0) hb); have n1_ := Aside0.mk (Kd.R_elder' (by (with_reducible repeat (first | apply Kd.R_alloc | apply Kd.R_drewN | apply Kd.R_drew)); exact HO_10.out) (Kd.R_base ho0) hb); have n2_ := Aside0.mk (Kd.R_elder' (by (with_reducible repeat (first | apply Kd.R_alloc | apply Kd.R_drewN | apply Kd.R_drew)); exact HO_11.out) (Kd.R_base ho0) hb); have n3_ := Aside0.mk (Kd.R_lower (Kd.R_new' (Kd.R_new' (Kd.R_new' ho0 (Kd.R_lt (by (with_reducible repeat (first | apply Kd.R_alloc | apply Kd.R_drewN | apply Kd.R_drew)); exact HO_8.out))) (Kd.R_lt (by (with_reducible repeat (first | apply Kd.R_alloc | apply Kd.R_drewN | apply Kd.R_drew)); exact HO_10.out))) (Kd.R_lt (by (with_reducible repeat (first | apply Kd.R_alloc | apply Kd.R_drewN | apply Kd.R_drew)); exact HO_11.out))) (below_size (by repeat (first | (with_reducible first | exact HB.out | apply below_alloc | apply pw_below_drewN | apply below_drew1 | refine below_set ?_ GE629.out) | exact HB.out)))); have n4_ := Aside0.mk (blk_below (g := gb629) (o := .cells #[.int .i64 a2_0, .int .i64 a2_1] 50 (0, 0)) (by (with_reducible repeat (first | refine blk_drewN ?_ _ | refine blk_drew ?_ | refine blk_alloc ?_ _)); exact BK629.out) hb); have n5_ := Aside0.mk (below_step (by repeat (first | (with_reducible first | exact HB.out | apply below_alloc | apply pw_below_drewN | apply below_drew1 | refine below_set ?_ GE629.out) | exact HB.out)) hb); clear HO_8; clear HO_10; clear HO_11; clear BK629; clear HB; have HO_8 := n0_; have HO_10 := n1_; have HO_11 := n2_; have HO652 := n3_; have BK629 := n4_; have HB := n5_; clear n0_ n1_ n2_ n3_ n4_ n5_; (try clear hb); (try clear hb2); (try clear hk); (try clear hi); (try clear ho0); obtain ⟨Ao85, co85, eo85⟩ := Kd.R_slice HO652.out; subst eo85) | ((with_reducible refine gate_callee (f := 19) rfl ?_); refine goesL_ (some 54) rfl rfl Try.func19 (by kernel_rfl) rfl #[.slice Ao23 t640.length co23, .slice Ao85 t650.length co85] rfl (by (try simp only [List.map_toArray, List.map_cons, List.map_nil]); first | done | rfl | (simp only [List.length_drop, List.length_take]; rfl)) ?_; (with_reducible refine (laws_eqChordS.calls kj12 _ _ t640 _ _ t650 false _ ?side1 ?side2 ?side3 ?side4 A35.out).mono ?_); (case side1 => repeat (first | exact (Kd.R_reads' HO_10.out).2.2 | (with_reducible refine Kd.C_alloc ?_ _) | (with_reducible refine Kd.C_drewN ?_ _) | (with_reducible refine Kd.C_drew ?_))); (case side2 => exact (Kd.R_reads' HO_10.out).2.1); (case side3 => repeat (first | exact (Kd.R_reads' HO652.out).2.2 | (with_reducible refine Kd.C_alloc ?_ _) | (with_reducible refine Kd.C_drewN ?_ _) | (with_reducible refine Kd.C_drew ?_))); (case side4 => exact (Kd.R_reads' HO652.out).2.1); rintro e w86 ⟨rfl, hb⟩; refine ⟨_, rfl, ?_⟩; have n0_ := Aside0.mk (Kd.R_below (by (with_reducible repeat (first | apply Kd.R_alloc | apply Kd.R_drewN | apply Kd.R_drew)); exact HO_8.out) hb); have n1_ := Aside0.mk (Kd.R_below (by (with_reducible repeat (first | apply Kd.R_alloc | apply Kd.R_drewN | apply Kd.R_drew)); exact HO_10.out) hb); have n2_ := Aside0.mk (Kd.R_below (by (with_reducible repeat (first | apply Kd.R_alloc | apply Kd.R_drewN | apply Kd.R_drew)); exact HO_11.out) hb); have n3_ := Aside0.mk (Kd.R_below (by (with_reducible repeat (first | apply Kd.R_alloc | apply Kd.R_drewN | apply Kd.R_drew)); exact HO652.out) hb); have n4_ := Aside0.mk (blk_below (g := gb629) (o := .cells #[.int .i64 a2_0, .int .i64 a2_1] 50 (0, 0)) (by (with_reducible repeat (first | refine blk_drewN ?_ _ | refine blk_drew ?_ | refine blk_alloc ?_ _)); exact BK629.out) hb); have n5_ := Aside0.mk (below_step (by repeat (first | (with_reducible first | exact HB.out | apply below_alloc | apply pw_below_drewN | apply below_drew1 | refine below_set ?_ GE629.out) | exact HB.out)) hb); clear HO_8; clear HO_10; clear HO_11; clear HO652; clear BK629; clear HB; have HO_8 := n0_; have HO_10 := n1_; have HO_11 := n2_; have HO652 := n3_; have BK629 := n4_; have HB := n5_; clear n0_ n1_ n2_ n3_ n4_ n5_; (try clear hb); (try clear hb2); (try clear hk); (try clear hi)))
            go_ret
            exact ⟨by first | rfl | (simp [errW_none, errW_some] <;> rfl) | (simp [*, errW_none, errW_some] <;> rfl), by repeat (first | (with_reducible first | exact HB.out | apply below_alloc | apply pw_below_drewN | apply below_drew1 | refine below_set ?_ GE629.out) | exact HB.out)⟩

end Go.Proofs.Ytkiookioejckbaa.X
