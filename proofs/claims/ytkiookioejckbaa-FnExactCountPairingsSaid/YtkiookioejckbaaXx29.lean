-- Written by a program of this work (wip/tools/xprint.py, which drives the kit's print over a whole seat). Not trusted: it is checked when it is built.
import Derived.Test.YtkiookioejckbaaXx0
import Derived.Test.YtkiookioejckbaaXx4
import Derived.Test.YtkiookioejckbaaXx27
import Derived.Test.YtkiookioejckbaaXx28
namespace Go.Proofs.Ytkiookioejckbaa.X
open Go.RowKit Go.Proofs.YtkiookioejckbaaW.PrintWords Go.Proofs.YtkiookioejckbaaW.PrintLast Go.Proofs.YtkiookioejckbaaW.PrintMore
attribute [local go_sem] max2_int min2_int max_two min_two max_three min_three max_four min_four   -- for this text's walks alone
set_option linter.unusedVariables false
set_option linter.unusedSimpArgs false

/-! ### impl_numbersWith: function 73 (given by hand) -/
/-- The numbers from lo on, m of them, of which q holds. -/
def nwList (q : Int → Bool) (lo : Int) : Nat → List Int
  | 0 => []
  | m + 1 => if q lo = true then lo :: nwList q (lo + 1) m else nwList q (lo + 1) m
/-- What is done, and what is left, make up the whole. -/
def NwRel (q : Int → Bool) (hi : Int) (all done : List Int) (x : Int) : Prop := done ++ nwList q x (hi - x + 1).toNat = all ∧ (done.length : Int) ≤ x
theorem nwRel_yes {q : Int → Bool} {hi : Int} {all done : List Int} {x : Int} (h : NwRel q hi all done x) (hx : x ≤ hi) (hq : q x = true) : NwRel q hi all (done ++ [x]) (x + 1) := by
  obtain ⟨h, hl⟩ := h
  obtain ⟨m, hm⟩ : ∃ m, (hi - x + 1).toNat = m + 1 := ⟨(hi - x).toNat, by omega⟩
  rw [hm] at h
  simp only [nwList, if_pos hq] at h
  refine ⟨?_, by simp; omega⟩
  rw [show (hi - (x + 1) + 1).toNat = m by omega, List.append_assoc]
  exact h
theorem nwRel_no {q : Int → Bool} {hi : Int} {all done : List Int} {x : Int} (h : NwRel q hi all done x) (hx : x ≤ hi) (hq : q x = false) : NwRel q hi all done (x + 1) := by
  obtain ⟨h, hl⟩ := h
  obtain ⟨m, hm⟩ : ∃ m, (hi - x + 1).toNat = m + 1 := ⟨(hi - x).toNat, by omega⟩
  rw [hm] at h
  simp only [nwList, hq] at h
  refine ⟨?_, by omega⟩
  rw [show (hi - (x + 1) + 1).toNat = m by omega]
  simpa using h
theorem nwRel_end {q : Int → Bool} {hi : Int} {all done : List Int} {x : Int} (h : NwRel q hi all done x) (hx : ¬ x ≤ hi) : done = all := by
  obtain ⟨h, _⟩ := h
  rw [show (hi - x + 1).toNat = 0 by omega] at h
  simpa [nwList] using h
def NwPost (all : List Int) (w : World) (e : Ending) (w' : World) : Prop := ∃ v0_ : Value, e = .returned v0_ ∧ Kd.R (Kd.int .i64) 3 w' w.heap.size (fun _ => True) v0_ all ∧ Below w.heap.size w w'
set_option maxHeartbeats 4000000 in
set_option maxRecDepth 100000 in
theorem numbersWith_walk (q : Int → Bool) (g : Nat) (lb : Array Value) (eg : ∀ args w, (callFunc g args).run Try.prog w = .ok (.enter g args) w) (lo hi : Int) (h0 : 0 ≤ lo) (h1 : hi ≤ 1000) (w : World)
    (hq : ∀ (x : Int) (W : World), lo ≤ x → x ≤ hi → Below w.heap.size w W → Calls Try.prog g (#[.int .i64 x] ++ lb) W fun e w' => e = .returned (.bool (q x)) ∧ ∃ m, w' = W.drewN m) :
    Calls Try.prog 73 #[.int .i64 lo, .int .i64 hi, .func (.func g) #[] lb] w (NwPost (nwList q lo (hi - lo + 1).toNat) w) := by
  have HQ := Aside0.mk hq
  clear hq
  have HH := Aside0.mk h0
  clear h0
  have HB := Aside0.mk (Below.refl w.heap.size w)
  obtain ⟨all, hall⟩ : ∃ all, nwList q lo (hi - lo + 1).toNat = all := ⟨_, rfl⟩
  rw [hall]
  have HALL := Aside0.mk hall
  clear hall
  go_enter Try.func73, Try.ntmps73
  go_wp2
  go_loopg [7, 8] (hi - lo + 1).toNat (fun gg v7 v8 wr => ∃ (x : Int) (ys : List Int), v8 = .int .i64 x ∧ Aside0 (lo ≤ x ∧ (hi - x + 1).toNat ≤ gg) ∧ Aside0 (x ≤ hi + 1 ∨ x = lo) ∧ Aside0 (NwRel q hi all ys x) ∧ Aside0 (Kd.R (Kd.int .i64) 3 wr w.heap.size (fun _ => True) v7 ys) ∧ Aside0 (Below w.heap.size w wr))
  case atStart => exact ⟨lo, [], rfl, ⟨Int.le_refl _, Nat.le_refl _⟩, ⟨.inr rfl⟩, ⟨by rw [List.nil_append]; exact HALL.out, by have := HH.out; simp; omega⟩, ⟨fun _ _ => trivial, OwnRow.lit w w.heap.size (Reps.none _ _) (Nat.le_refl _) (by simp)⟩, ⟨below_alloc (Below.refl _ _) _⟩⟩
  case round =>
    obtain ⟨x, ys, rfl, HX, HY, HR, HO_4, HB⟩ := hrel
    by_cases hx : x ≤ hi
    · have c0 : decide (x ≤ hi) = true := decide_eq_true hx
      have HX1 := Aside0.mk hx
      have HH1 := Aside0.mk h1
      clear hx h1
      have hcall := HQ.out x wr HX.out.1 HX1.out HB.out
      have HZ := Aside0.mk (show wrap64 (x + 1) = x + 1 by have := HX.out; have := HX1.out; have := HH.out; have := HH1.out; unfold wrap64; omega)
      cases hqx : q x with
      | true =>
        rw [hqx] at hcall
        have HCALL := Aside0.mk hcall
        have HQX := Aside0.mk hqx
        clear hcall hqx
        go_wp2_with fail
        refine HCALL.out.mono ?_
        rintro e w' ⟨rfl, m, rfl⟩
        obtain ⟨y271, hy271⟩ : ∃ y_ : List Int, y_ = (ys ++ [x]) := ⟨_, rfl⟩
        have Ny271 := Aside0.mk hy271
        clear hy271
        go_wp2_with (first | ((with_reducible refine gate_builtin (b := .append) (xs := #[.tmp 19, .tmp 21]) rfl ?_); at_builtin; refine Kd.R_append (Kd.int .i64) (w0 := w) w.heap.size rfl (.tmp 19) (.tmp 21) 37 3 (.int .i64 0) 8 rfl Try.underlying37 info3 rfl (by decide) (by omega) u7 ys x [.int .i64 x] (fun _ => True) (fun _ => False) rfl rfl ?aP (fun _ hk => hk.elim) ?aF ?aO ?aB ?aS ?aL ?_; (case aP => exact rfl); (case aB => exact (by repeat (first | (with_reducible first | exact HB.out | apply below_alloc | apply pw_below_drewN | apply below_drew1) | exact HB.out))); (case aF => exact (fun _ _ => trivial)); (case aO => exact (by (with_reducible repeat (first | apply Kd.R_alloc | apply Kd.R_drewN | apply Kd.R_drew)); exact HO_4.out)); (case aS => exact (below_size (by repeat (first | (with_reducible first | exact HB.out | apply below_alloc | apply pw_below_drewN | apply below_drew1) | exact HB.out)))); (case aL => have := HR.out.2; have := HX1.out; have := HH1.out; omega); intro v272 w6 ho hb hg hat; rw [← Ny271.out] at ho; have n0_ := Aside0.mk (hb); have n1_ := Aside0.mk (ho); clear HB; clear HO_4; have HB := n0_; have HO273 := n1_; clear n0_ n1_; clear ho hb hg hat))
        go_roundg (hi - x).toNat
        case measure => have := HX.out; have := HX1.out; omega
        case rel => exact ⟨x + 1, y271, by rw [HZ.out], ⟨by have := HX.out; omega, by omega⟩, ⟨.inl (by have := HX1.out; omega)⟩, ⟨by rw [Ny271.out]; exact nwRel_yes HR.out HX1.out HQX.out⟩, HO273, HB⟩
      | false =>
        rw [hqx] at hcall
        have HCALL := Aside0.mk hcall
        have HQX := Aside0.mk hqx
        clear hcall hqx
        go_wp2_with fail
        refine HCALL.out.mono ?_
        rintro e w' ⟨rfl, m, rfl⟩
        go_wp2_with fail
        go_roundg (hi - x).toNat
        case measure => have := HX.out; have := HX1.out; omega
        case rel => exact ⟨x + 1, ys, by rw [HZ.out], ⟨by have := HX.out; omega, by omega⟩, ⟨.inl (by have := HX1.out; omega)⟩, ⟨nwRel_no HR.out HX1.out HQX.out⟩, ⟨Kd.R_drewN HO_4.out m⟩, ⟨pw_below_drewN HB.out m⟩⟩
    · have c0 : decide (x ≤ hi) = false := decide_eq_false hx
      have HX1 := Aside0.mk hx
      clear hx
      obtain rfl := nwRel_end HR.out HX1.out
      go_wp2
      go_ret
      exact ⟨_, rfl, HO_4.out, HB.out⟩

/-! ### impl_CountPairings: function 43 (given by hand) -/
def impl_CountPairings.f (k : Nat) (a0 a1 : Int) : Option (Int × Bool) := (impl_isEven.f a0 12).bind fun t => if t = true then ((impl_within.f a1 0 100).bind fun t2 => if t2 = true then (if 0 ≤ a0 ∧ a0 ≤ 60 then ((impl_countPairings.f k (nwList (fun _ => true) 0 (a0 - 1 - 0 + 1).toNat) [] a1).bind fun n => some (n, true)) else none) else some (0, false)) else some (0, false)
theorem impl_CountPairings.mono : ∀ a0 a1 k, LeO (impl_CountPairings.f k a0 a1) (impl_CountPairings.f (k + 1) a0 a1) := by
  intro a0 a1 k
  unfold impl_CountPairings.f
  repeat' first
      | (with_reducible exact impl_countPairings.mono _ _ _ _)
      | (with_reducible exact LeO.refl _)
      | (with_reducible exact LeO.none _)
      | (with_reducible refine LeO.ite ?_ ?_)
      | (with_reducible refine LeO.bind ?_ (fun _ => ?_))
set_option maxHeartbeats 2000000 in
theorem pairings_closure (x : Int) (W : World) : Calls Try.prog 74 (#[.int .i64 x] ++ #[]) W fun e w' => e = .returned (.bool true) ∧ ∃ m, w' = W.drewN m := by
  show Calls Try.prog 74 #[.int .i64 x] W _
  go_enter Try.func74, Try.ntmps74
  go_wp2
  go_ret
  exact ⟨rfl, 0, rfl⟩
set_option maxHeartbeats 1000000 in
set_option maxRecDepth 100000 in
theorem impl_CountPairings.calls (k : Nat) (a0 a1 : Int) (r1 : Int) (r2 : Bool) (w : World) (h : impl_CountPairings.f k a0 a1 = some (r1, r2)) :
    Calls Try.prog 43 #[.int .i64 a0, .int .i64 a1] w fun e w' => e = .returned (.tuple #[.int .i64 r1, .bool r2]) ∧ Below w.heap.size w w' := by
  unfold impl_CountPairings.f at h
  obtain ⟨t, ht, h⟩ := Option.bind_eq_some_iff.mp h
  have HI := Aside0.mk (fun W => impl_isEven.calls a0 12 t W ht)
  clear ht
  cases t with
  | false =>
    rw [if_neg (by decide)] at h
    injection h with h; injection h with e1 e2; subst e1; subst e2
    go_enter Try.func43, Try.ntmps43
    go_wp2_with fail
    refine (HI.out _).mono ?_
    rintro e w' ⟨rfl, ⟨nd, rfl⟩⟩
    go_wp2_with fail
    go_ret2
    exact ⟨rfl, pw_below_drewN (Below.refl _ _) nd⟩
  | true =>
    rw [if_pos rfl] at h
    obtain ⟨t2, ht2, h⟩ := Option.bind_eq_some_iff.mp h
    have HI2 := Aside0.mk (fun W => impl_within.calls a1 0 100 t2 W ht2)
    clear ht2
    cases t2 with
    | false =>
      rw [if_neg (by decide)] at h
      injection h with h; injection h with e1 e2; subst e1; subst e2
      go_enter Try.func43, Try.ntmps43
      go_wp2_with fail
      refine (HI.out _).mono ?_
      rintro e w' ⟨rfl, ⟨nd, rfl⟩⟩
      go_wp2_with fail
      refine (HI2.out _).mono ?_
      rintro e w' ⟨rfl, ⟨nd2, rfl⟩⟩
      go_wp2_with fail
      go_ret2
      exact ⟨rfl, pw_below_drewN (Below.refl _ _) (nd + nd2)⟩
    | true =>
      rw [if_pos rfl] at h
      by_cases hs : 0 ≤ a0 ∧ a0 ≤ 60
      · rw [if_pos hs] at h
        obtain ⟨n, hn, h⟩ := Option.bind_eq_some_iff.mp h
        injection h with h; injection h with e1 e2; subst e1; subst e2
        obtain ⟨L, hL⟩ : ∃ L, nwList (fun _ => true) 0 (a0 - 1 - 0 + 1).toNat = L := ⟨_, rfl⟩
        rw [hL] at hn
        have HN := Aside0.mk hn
        have HLL := Aside0.mk hL
        clear hL
        have hw : wrap64 (a0 - 1) = a0 - 1 := by unfold wrap64; omega
        have HL := Aside0.mk hs
        clear hn hs
        go_enter Try.func43, Try.ntmps43
        go_wp2_with fail
        refine (HI.out _).mono ?_
        rintro e w' ⟨rfl, ⟨nd, rfl⟩⟩
        go_wp2_with fail
        refine (HI2.out _).mono ?_
        rintro e w' ⟨rfl, ⟨nd2, rfl⟩⟩
        have hc := numbersWith_walk (fun _ => true) 74 #[] (enters_of Try.func74 (by kernel_rfl) rfl) 0 (a0 - 1) (by omega) (by have := HL.out; omega) (w.drewN (nd + nd2)) (fun x W _ _ _ => pairings_closure x W)
        rw [HLL.out] at hc
        have HC := Aside0.mk hc
        clear hc
        go_wp2_with fail
        refine HC.out.mono ?_
        rintro e w1 ⟨v, rfl, hR, hB⟩
        obtain ⟨A, c, rfl, hlc, hC⟩ := Kd.R_reads hR
        have HB := Aside0.mk hB
        have HK := Aside0.mk (fun W (hW : W = w1) => impl_countPairings.calls k A c _ none 0 [] a1 n W (hW ▸ hC) hlc (Kd.C_nil _ _) (Nat.le_refl _) HN.out)
        clear hR hB hC
        go_wp2_with fail
        refine (HK.out _ rfl).mono ?_
        rintro e w2 ⟨rfl, hb2⟩
        go_wp2_with fail
        go_ret2
        exact ⟨rfl, below_step (below_step (pw_below_drewN (Below.refl _ _) (nd + nd2)) HB.out) hb2⟩
      · rw [if_neg hs] at h
        cases h

/-! ### laws_FnExactCountPairings: function 11 -/
def laws_FnExactCountPairings.f (k : Nat) (a0 : Int) (a1 : Int) : Option (Bool) := (spec_CountPairings.f k a0 a1).bind fun bt529 => ((impl_CountPairings.f k a0 a1).bind fun bt531 => (if bt531.1 = bt529.1 then (if (bt531.2 != bt529.2) = true then (some false) else (some true)) else (some false)))
theorem laws_FnExactCountPairings.mono : ∀ a0 a1 k, LeO (laws_FnExactCountPairings.f k a0 a1) (laws_FnExactCountPairings.f (k + 1) a0 a1) := by
  intro a0 a1 k
  unfold laws_FnExactCountPairings.f
  repeat' first
      | (with_reducible exact impl_CountPairings.mono _ _ _)
      | (with_reducible exact spec_CountPairings.mono _ _ _)
      | (with_reducible exact LeO.refl _)
      | (with_reducible exact LeO.none _)
      | (with_reducible refine LeO.ite ?_ ?_)
      | (with_reducible refine LeO.bind ?_ (fun _ => ?_))
      | exact impl_CountPairings.mono _ _ _
      | exact spec_CountPairings.mono _ _ _
      | exact LeO.none _
      | refine LeO.ite ?_ ?_
      | refine LeO.bind ?_ (fun _ => ?_)
set_option maxHeartbeats 8000000 in
set_option maxRecDepth 100000 in
theorem laws_FnExactCountPairings.calls (k : Nat) (a0 : Int) (a1 : Int) (r : Bool) (w : World) (h : laws_FnExactCountPairings.f k a0 a1 = some r) :
    Calls Try.prog 11 #[.int .i64 a0, .int .i64 a1] w fun e w' => e = .returned (.bool r) ∧ Below w.heap.size w w' := by
  have HB := Aside0.mk (Below.refl w.heap.size w)
  have H : ((spec_CountPairings.f k a0 a1).bind fun bt529 => ((impl_CountPairings.f k a0 a1).bind fun bt531 => (if bt531.1 = bt529.1 then (if (bt531.2 != bt529.2) = true then (some false) else (some true)) else (some false)))) = some r := h
  clear h
  replace H := Option.bind_eq_some_iff.mp H
  obtain ⟨⟨t529, t530⟩, A30, H⟩ := H
  replace H : ((impl_CountPairings.f k a0 a1).bind fun bt531 => (if bt531.1 = t529 then (if (bt531.2 != t530) = true then (some false) else (some true)) else (some false))) = some r := H
  have A3 := Aside0.mk A30
  clear A30
  replace H := Option.bind_eq_some_iff.mp H
  obtain ⟨⟨t531, t532⟩, A40, H⟩ := H
  replace H : (if t531 = t529 then (if (t532 != t530) = true then (some false) else (some true)) else (some false)) = some r := H
  have A4 := Aside0.mk A40
  clear A40
  by_cases c5 : t531 = t529
  · rw [if_pos c5] at H
    have c5b0 : (t531 == t529) = true := beq_iff_eq.mpr c5
    have c5b1 : (t531 != t529) = false := bne_eq_false_iff_eq.mpr c5
    clear c5
    by_cases c6 : (t532 != t530) = true
    · rw [if_pos c6] at H
      have c6b0 : (t532 != t530) = true := c6
      (try (have c6b1 : decide (t532 = t530) = false := by simpa using c6))
      (try (have c6b2 : (t532 == t530) = false := by simpa using c6))
      (try (have c6b3 : ¬ (t532 = t530) := by simpa using c6))
      clear c6
      obtain rfl := Option.some.inj H
      go_enter Try.func11, Try.ntmps11
      go_wp2_with (first | ((with_reducible refine gate_callee (f := 42) rfl ?_); refine goesL_ (some 12) rfl rfl Try.func42 (by kernel_rfl) rfl #[.int .i64 a0, .int .i64 a1] rfl (by (try simp only [List.map_toArray, List.map_cons, List.map_nil]); first | done | rfl | (simp only [List.length_drop, List.length_take]; rfl)) ?_; (with_reducible refine (spec_CountPairings.calls k a0 a1 t529 t530 _ A3.out).mono ?_); rintro e w7 ⟨rfl, hb⟩; refine ⟨_, rfl, ?_⟩; have n0_ := Aside0.mk (below_step (by repeat (first | (with_reducible first | exact HB.out | apply below_alloc | apply pw_below_drewN | apply below_drew1) | exact HB.out)) hb); clear HB; have HB := n0_; clear n0_; (try clear hb); (try clear hb2); (try clear hk); (try clear hi)) | ((with_reducible refine gate_callee (f := 43) rfl ?_); refine goesL_ (some 18) rfl rfl Try.func43 (by kernel_rfl) rfl #[.int .i64 a0, .int .i64 a1] rfl (by (try simp only [List.map_toArray, List.map_cons, List.map_nil]); first | done | rfl | (simp only [List.length_drop, List.length_take]; rfl)) ?_; (with_reducible refine (impl_CountPairings.calls k a0 a1 t531 t532 _ A4.out).mono ?_); rintro e w8 ⟨rfl, hb⟩; refine ⟨_, rfl, ?_⟩; have n0_ := Aside0.mk (below_step (by repeat (first | (with_reducible first | exact HB.out | apply below_alloc | apply pw_below_drewN | apply below_drew1) | exact HB.out)) hb); clear HB; have HB := n0_; clear n0_; (try clear hb); (try clear hb2); (try clear hk); (try clear hi)))
      go_ret
      exact ⟨by first | rfl | (simp [errW_none, errW_some] <;> rfl) | (simp [*, errW_none, errW_some] <;> rfl), by repeat (first | (with_reducible first | exact HB.out | apply below_alloc | apply pw_below_drewN | apply below_drew1) | exact HB.out)⟩
    · rw [if_neg c6] at H
      have c6b0 : (t532 != t530) = false := by simpa using c6
      (try (have c6b1 : decide (t532 = t530) = true := by simpa using c6))
      (try (have c6b2 : (t532 == t530) = true := by simpa using c6))
      clear c6
      obtain rfl := Option.some.inj H
      go_enter Try.func11, Try.ntmps11
      go_wp2_with (first | ((with_reducible refine gate_callee (f := 42) rfl ?_); refine goesL_ (some 12) rfl rfl Try.func42 (by kernel_rfl) rfl #[.int .i64 a0, .int .i64 a1] rfl (by (try simp only [List.map_toArray, List.map_cons, List.map_nil]); first | done | rfl | (simp only [List.length_drop, List.length_take]; rfl)) ?_; (with_reducible refine (spec_CountPairings.calls k a0 a1 t529 t530 _ A3.out).mono ?_); rintro e w9 ⟨rfl, hb⟩; refine ⟨_, rfl, ?_⟩; have n0_ := Aside0.mk (below_step (by repeat (first | (with_reducible first | exact HB.out | apply below_alloc | apply pw_below_drewN | apply below_drew1) | exact HB.out)) hb); clear HB; have HB := n0_; clear n0_; (try clear hb); (try clear hb2); (try clear hk); (try clear hi)) | ((with_reducible refine gate_callee (f := 43) rfl ?_); refine goesL_ (some 18) rfl rfl Try.func43 (by kernel_rfl) rfl #[.int .i64 a0, .int .i64 a1] rfl (by (try simp only [List.map_toArray, List.map_cons, List.map_nil]); first | done | rfl | (simp only [List.length_drop, List.length_take]; rfl)) ?_; (with_reducible refine (impl_CountPairings.calls k a0 a1 t531 t532 _ A4.out).mono ?_); rintro e w10 ⟨rfl, hb⟩; refine ⟨_, rfl, ?_⟩; have n0_ := Aside0.mk (below_step (by repeat (first | (with_reducible first | exact HB.out | apply below_alloc | apply pw_below_drewN | apply below_drew1) | exact HB.out)) hb); clear HB; have HB := n0_; clear n0_; (try clear hb); (try clear hb2); (try clear hk); (try clear hi)))
      go_ret
      exact ⟨by first | rfl | (simp [errW_none, errW_some] <;> rfl) | (simp [*, errW_none, errW_some] <;> rfl), by repeat (first | (with_reducible first | exact HB.out | apply below_alloc | apply pw_below_drewN | apply below_drew1) | exact HB.out)⟩
  · rw [if_neg c5] at H
    have c5b0 : (t531 == t529) = false := beq_eq_false_iff_ne.mpr c5
    have c5b1 : (t531 != t529) = true := bne_iff_ne.mpr c5
    obtain rfl := Option.some.inj H
    go_enter Try.func11, Try.ntmps11
    go_wp2_with (first | ((with_reducible refine gate_callee (f := 42) rfl ?_); refine goesL_ (some 12) rfl rfl Try.func42 (by kernel_rfl) rfl #[.int .i64 a0, .int .i64 a1] rfl (by (try simp only [List.map_toArray, List.map_cons, List.map_nil]); first | done | rfl | (simp only [List.length_drop, List.length_take]; rfl)) ?_; (with_reducible refine (spec_CountPairings.calls k a0 a1 t529 t530 _ A3.out).mono ?_); rintro e w11 ⟨rfl, hb⟩; refine ⟨_, rfl, ?_⟩; have n0_ := Aside0.mk (below_step (by repeat (first | (with_reducible first | exact HB.out | apply below_alloc | apply pw_below_drewN | apply below_drew1) | exact HB.out)) hb); clear HB; have HB := n0_; clear n0_; (try clear hb); (try clear hb2); (try clear hk); (try clear hi)) | ((with_reducible refine gate_callee (f := 43) rfl ?_); refine goesL_ (some 18) rfl rfl Try.func43 (by kernel_rfl) rfl #[.int .i64 a0, .int .i64 a1] rfl (by (try simp only [List.map_toArray, List.map_cons, List.map_nil]); first | done | rfl | (simp only [List.length_drop, List.length_take]; rfl)) ?_; (with_reducible refine (impl_CountPairings.calls k a0 a1 t531 t532 _ A4.out).mono ?_); rintro e w12 ⟨rfl, hb⟩; refine ⟨_, rfl, ?_⟩; have n0_ := Aside0.mk (below_step (by repeat (first | (with_reducible first | exact HB.out | apply below_alloc | apply pw_below_drewN | apply below_drew1) | exact HB.out)) hb); clear HB; have HB := n0_; clear n0_; (try clear hb); (try clear hb2); (try clear hk); (try clear hi)))
    go_ret
    exact ⟨by first | rfl | (simp [errW_none, errW_some] <;> rfl) | (simp [*, errW_none, errW_some] <;> rfl), by repeat (first | (with_reducible first | exact HB.out | apply below_alloc | apply pw_below_drewN | apply below_drew1) | exact HB.out)⟩

/-- THE ONE PURE STATEMENT of laws_FnExactCountPairings: yours. -/
def laws_FnExactCountPairings.Pure : Prop := ∀ (a0 : Int) (a1 : Int), (Lit.int .i64 a0).wf = true → (Lit.int .i64 a1).wf = true → ∃ k, laws_FnExactCountPairings.f k a0 a1 = some true
theorem laws_FnExactCountPairings.walk (P : laws_FnExactCountPairings.Pure) (a0 : Int) (a1 : Int) (w : World) (w0 : (Lit.int .i64 a0).wf = true) (w1 : (Lit.int .i64 a1).wf = true) :
    Calls Try.prog 11 #[.int .i64 a0, .int .i64 a1] w fun e w' => e = .returned (.bool true) ∧ Below w.heap.size w w' := by
  obtain ⟨k, h⟩ := P a0 a1 w0 w1
  refine (laws_FnExactCountPairings.calls k a0 a1 true w h).mono ?_
  rintro e w' ⟨rfl, hd⟩
  exact ⟨rfl, hd⟩

/-! ### spec_l1Has: function 96 -/
def spec_l1Has.l0 : Nat → Int → List Int → Int → Int → Option (Bool)
  | 0, _, _, _, _ => none
  | k + 1, x1, x7, x8, x9 => if x9 < x8 then (if 0 ≤ x9 then (if x9 < (x7.length : Int) then (if (rd x7 x9) = x1 then (some true) else (spec_l1Has.l0 k x1 x7 x8 (wrap64 (x9 + 1)))) else (none)) else (none)) else (some false)
def spec_l1Has.f (k : Nat) (l0 : List Int) (a1 : Int) : Option (Bool) := spec_l1Has.l0 k a1 l0 (l0.length : Int) 0
theorem spec_l1Has.mono_l : ∀ k, (∀ y0 y1 y2 y3, LeO (spec_l1Has.l0 k y0 y1 y2 y3) (spec_l1Has.l0 (k + 1) y0 y1 y2 y3))
  | 0 => fun _ _ _ _ r h => by simp [spec_l1Has.l0] at h
  | k + 1 => by
    have ih0 := spec_l1Has.mono_l k
    · intro y0 y1 y2 y3
      unfold spec_l1Has.l0
      repeat' first
      | (with_reducible exact ih0 _ _ _ _)
      | (with_reducible exact LeO.refl _)
      | (with_reducible exact LeO.none _)
      | (with_reducible refine LeO.ite ?_ ?_)
      | (with_reducible refine LeO.bind ?_ (fun _ => ?_))
      | exact ih0 _ _ _ _
      | exact LeO.none _
      | refine LeO.ite ?_ ?_
      | refine LeO.bind ?_ (fun _ => ?_)
theorem spec_l1Has.mono : ∀ a0 a1 k, LeO (spec_l1Has.f k a0 a1) (spec_l1Has.f (k + 1) a0 a1) := by
  intro a0 a1 k
  have ih0 := spec_l1Has.mono_l k
  unfold spec_l1Has.f
  repeat' first
      | (with_reducible exact ih0 _ _ _ _)
      | (with_reducible exact LeO.refl _)
      | (with_reducible exact LeO.none _)
      | (with_reducible refine LeO.ite ?_ ?_)
      | (with_reducible refine LeO.bind ?_ (fun _ => ?_))
      | exact ih0 _ _ _ _
      | exact LeO.none _
      | refine LeO.ite ?_ ?_
      | refine LeO.bind ?_ (fun _ => ?_)
set_option maxHeartbeats 8000000 in
set_option maxRecDepth 100000 in
theorem spec_l1Has.calls (k : Nat) (A0 : Option Addr) (c0 : Nat) (l0 : List Int) (a1 : Int) (r : Bool) (w : World) (hr0 : Kd.C (Kd.int .i64) w A0 l0.length l0) (hc0 : l0.length ≤ c0) (h : spec_l1Has.f k l0 a1 = some r) :
    Calls Try.prog 96 #[.slice A0 l0.length c0, .int .i64 a1] w fun e w' => e = .returned (.bool r) ∧ Drawn0 w w' := by
  have HR0 := Aside0.mk hr0
  have HC0 := Aside0.mk hc0
  clear hr0 hc0
  have H : (spec_l1Has.l0 k a1 l0 (l0.length : Int) 0) = some r := h
  clear h
  have H' := Aside0.mk H
  clear H
  go_enter Try.func96, Try.ntmps96
  go_wp2
  go_loopg [9] k (fun kq v9 w' => ∃ (x9_1 : Int), v9 = .int .i64 x9_1 ∧ Aside0 (spec_l1Has.l0 kq a1 l0 (l0.length : Int) x9_1 = some r) ∧ Aside0 (kq ≤ k) ∧ Drawn0 w w')
  case atStart => exact ⟨(0), (by first | rfl | (simp; done) | (simp [*]; done)), H', ⟨Nat.le_refl _⟩, by repeat (first | exact Drawn0.refl _ | apply Drawn0.step)⟩
  case round =>
    clear H'
    try clear p2
    obtain ⟨x9_1, rfl, HA, HK1, ⟨m1, rfl⟩⟩ := hrel
    cases gk with
    | zero => exact absurd HA.out (by simp [spec_l1Has.l0])
    | succ k1 =>
      have H := HA.out
      clear HA
      simp only [spec_l1Has.l0] at H
      by_cases c3 : x9_1 < (l0.length : Int)
      · rw [if_pos c3] at H
        have c3b0 : decide (x9_1 < (l0.length : Int)) = true := decide_eq_true c3
        clear c3
        by_cases c4 : 0 ≤ x9_1
        · rw [if_pos c4] at H
          have c4b0 : decide (0 ≤ x9_1) = true := decide_eq_true c4
          clear c4
          by_cases c5 : x9_1 < (l0.length : Int)
          · rw [if_pos c5] at H
            have c5b0 : decide (x9_1 < (l0.length : Int)) = true := decide_eq_true c5
            clear c5
            by_cases c6 : (rd l0 x9_1) = a1
            · rw [if_pos c6] at H
              have c6b0 : ((rd l0 x9_1) == a1) = true := beq_iff_eq.mpr c6
              have c6b1 : ((rd l0 x9_1) != a1) = false := bne_eq_false_iff_eq.mpr c6
              clear c6
              obtain rfl := Option.some.inj H
              have p533 : 0 ≤ (x9_1 : Int) := of_decide_eq_true (by first | (with_reducible assumption) | assumption)
              have q533 : x9_1 < (l0.length : Int) := of_decide_eq_true (by first | (with_reducible assumption) | assumption)
              obtain ⟨ad533, e533, hx533_0⟩ := Kd.at_int HR0.out x9_1 p533 q533
              cases e533
              replace p533 := eq_true p533
              replace q533 := eq_true q533
              go_wp2
              go_ret
              exact ⟨by first | rfl | (simp; done) | (simp [*]; done), by repeat (first | exact Drawn0.refl _ | apply Drawn0.step)⟩
            · rw [if_neg c6] at H
              have c6b0 : ((rd l0 x9_1) == a1) = false := beq_eq_false_iff_ne.mpr c6
              have c6b1 : ((rd l0 x9_1) != a1) = true := bne_iff_ne.mpr c6
              have H' := Aside0.mk H
              clear H
              have p533 : 0 ≤ (x9_1 : Int) := of_decide_eq_true (by first | (with_reducible assumption) | assumption)
              have q533 : x9_1 < (l0.length : Int) := of_decide_eq_true (by first | (with_reducible assumption) | assumption)
              obtain ⟨ad533, e533, hx533_0⟩ := Kd.at_int HR0.out x9_1 p533 q533
              cases e533
              replace p533 := eq_true p533
              replace q533 := eq_true q533
              go_wp2
              go_roundg k1
              case measure => have := HK1.out; omega
              case rel => exact ⟨(wrap64 (x9_1 + 1)), (by first | rfl | (simp; done) | (simp [*]; done)), H', ⟨by have := HK1.out; omega⟩, by repeat (first | exact Drawn0.refl _ | apply Drawn0.step)⟩
          · rw [if_neg c5] at H
            exact absurd H (by simp)
        · rw [if_neg c4] at H
          exact absurd H (by simp)
      · rw [if_neg c3] at H
        have c3b0 : decide (x9_1 < (l0.length : Int)) = false := decide_eq_false c3
        clear c3
        obtain rfl := Option.some.inj H
        go_wp2
        go_ret
        exact ⟨by first | rfl | (simp; done) | (simp [*]; done), by repeat (first | exact Drawn0.refl _ | apply Drawn0.step)⟩

/-! ### spec_l1Own: function 97 -/
def spec_l1Own.f (l0 : List Int) : Option (List Int) := (some (([] : List Int) : List Int)).bind fun y534 => (if y534.length + l0.length < 17592186044416 then (some (y534 ++ l0)) else (none))
set_option maxHeartbeats 8000000 in
set_option maxRecDepth 100000 in
theorem spec_l1Own.calls (A0 : Option Addr) (c0 : Nat) (l0 : List Int) (r : List Int) (w : World) (hr0 : Kd.C (Kd.int .i64) w A0 l0.length l0) (hc0 : l0.length ≤ c0) (h : spec_l1Own.f l0 = some r) :
    Calls Try.prog 97 #[.slice A0 l0.length c0] w fun e w' => ∃ v0_ : Value, e = .returned (v0_) ∧ Kd.R (Kd.int .i64) 3 w' w.heap.size (fun _ => True) v0_ r ∧ Below w.heap.size w w' := by
  have HR0 := Aside0.mk hr0
  have HC0 := Aside0.mk hc0
  clear hr0 hc0
  have HB := Aside0.mk (Below.refl w.heap.size w)
  have H : ((some (([] : List Int) : List Int)).bind fun y534 => (if y534.length + l0.length < 17592186044416 then (some (y534 ++ l0)) else (none))) = some r := h
  clear h
  obtain ⟨y534, hy534⟩ : ∃ y_ : List Int, y_ = (([] : List Int)) := ⟨_, rfl⟩
  replace H : (if y534.length + l0.length < 17592186044416 then (some (y534 ++ l0)) else (none)) = some r := by first | (rw [hy534]; with_reducible exact H) | (have H2_ := (Option.bind_some _ _).symm.trans H; rw [hy534]; with_reducible exact H2_) | (have H2_ := (Option.bind_some _ _).symm.trans H; with_reducible exact H2_) | with_reducible exact H | (rw [hy534]; exact H) | exact H
  have Ny534 := Aside0.mk hy534
  clear hy534
  by_cases c2 : y534.length + l0.length < 17592186044416
  · rw [if_pos c2] at H
    have LMc2 := Aside0.mk c2
    clear c2
    obtain ⟨y537, hy537⟩ : ∃ y_ : List Int, y_ = (y534 ++ l0) := ⟨_, rfl⟩
    replace H : (some y537) = some r := by first | (rw [hy537]; with_reducible exact H) | (have H2_ := (Option.bind_some _ _).symm.trans H; rw [hy537]; with_reducible exact H2_) | (have H2_ := (Option.bind_some _ _).symm.trans H; with_reducible exact H2_) | with_reducible exact H | (rw [hy537]; exact H) | exact H
    have Ny537 := Aside0.mk hy537
    clear hy537
    obtain rfl := Option.some.inj H
    go_enter Try.func97, Try.ntmps97
    go_wp2_with (first | ((with_reducible refine gate_dst (N := 3) rfl ?_); refine Kd.R_lit (Kd.int .i64) _ 3 ?hg (N := 3) ?hd (xs := ([] : List Int)) (inner := []) (ok := fun _ => True) (okp := fun _ => True) ?hr ?hp (fun _ hk => hk) trivial (Below.refl _ _) (Nat.le_refl _) (by simp) ?_; (case hd => rfl); (case hg => rfl); (case hr => first | (go_simp; done) | (go_simp; rfl)); (case hp => exact (Reps.none _ _)); intro v535 w3 ho4 hb hg_ hnew_; clear hg_ hnew_; (first | rw [← Ny534.out] at ho4 | (simp only [Int.reduceToNat] at ho4; rw [← Ny534.out] at ho4)); have n0_ := Aside0.mk (Kd.R_lower ho4 (below_size (by repeat (first | (with_reducible first | exact HB.out | apply below_alloc | apply pw_below_drewN | apply below_drew1) | exact HB.out)))); have n1_ := Aside0.mk (below_step (by repeat (first | (with_reducible first | exact HB.out | apply below_alloc | apply pw_below_drewN | apply below_drew1) | exact HB.out)) hb); clear HB; have HO536 := n0_; have HB := n1_; clear n0_ n1_; clear hb ho4) | ((with_reducible refine gate_builtin (b := .append) (xs := #[.tmp 3, .tmp 4]) rfl ?_); at_builtin; refine Kd.R_append_rows (Kd.int .i64) (w0 := w) w.heap.size rfl (.tmp 3) (.tmp 4) 37 3 (.int .i64 0) 8 rfl Try.underlying37 info3 rfl (by decide) (by omega) v535 y534 l0 _ _ _ (fun _ => True) (fun _ => False) rfl rfl ?aO ?aR (fun _ _ h => h) (fun _ h => h.elim) ?aF ?aB ?aS ?aL ?_; (case aR => repeat (first | exact (Kd.C_below HR0.out HB.out) | (with_reducible refine Kd.C_alloc ?_ _) | (with_reducible refine Kd.C_drewN ?_ _) | (with_reducible refine Kd.C_drew ?_))); (case aB => exact (by repeat (first | (with_reducible first | exact HB.out | apply below_alloc | apply pw_below_drewN | apply below_drew1) | exact HB.out))); (case aF => exact (fun _ _ => trivial)); (case aO => exact (by (with_reducible repeat (first | apply Kd.R_alloc | apply Kd.R_drewN | apply Kd.R_drew)); exact HO536.out)); (case aS => exact (below_size (by repeat (first | (with_reducible first | exact HB.out | apply below_alloc | apply pw_below_drewN | apply below_drew1) | exact HB.out)))); (case aL => have := LMc2.out; omega); intro v538 w5 ho hb hg hat; rw [← Ny537.out] at ho; have n0_ := Aside0.mk (hb); have n1_ := Aside0.mk (ho); clear HB; clear HO536; have HB := n0_; have HO539 := n1_; clear n0_ n1_; clear ho hb hg hat))
    go_ret
    exact ⟨_, by first | rfl | (simp [errW_none, errW_some] <;> rfl) | (simp [*, errW_none, errW_some] <;> rfl), by (with_reducible repeat (first | apply Kd.R_alloc | apply Kd.R_drewN | apply Kd.R_drew)); exact HO539.out, by repeat (first | (with_reducible first | exact HB.out | apply below_alloc | apply pw_below_drewN | apply below_drew1) | exact HB.out)⟩
  · rw [if_neg c2] at H
    exact absurd H (by simp)

end Go.Proofs.Ytkiookioejckbaa.X
