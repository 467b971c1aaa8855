-- Written by a program of this work (wip/tools/xprint.py, which drives the kit's print over a whole seat). Not trusted: it is checked when it is built.
import Derived.Test.YtceoaondcnhaeaaDoorXx0
import Derived.Test.YtceoaondcnhaeaaDoorXx2
import Derived.Test.YtceoaondcnhaeaaDoorXx5
namespace Go.Proofs.YtceoaondcnhaeaaDoor.X
open Go.RowKit Go.Proofs.YtceoaondcnhaeaaDoorW.PrintWords Go.Proofs.YtceoaondcnhaeaaDoorW.PrintLast Go.Proofs.YtceoaondcnhaeaaDoorW.PrintMore
attribute [local go_sem] max2_int min2_int max_two min_two max_three min_three max_four min_four   -- for this text's walks alone
set_option linter.unusedVariables false
set_option linter.unusedSimpArgs false

/-! ### laws_markIntSS: function 13 (given by hand) -/
def laws_markIntSS.l0 : Nat → List (List Int) → Int → Int → Option (Int × List (List Int))
  | 0, _, _, _ => none
  | k + 1, x0, x1, x5 => if x5 < (x0.length : Int) then (if 0 ≤ x5 then ((laws_markIntS.f k (x0.getD (x5 : Int).toNat []) x1).bind fun bt => laws_markIntSS.l0 k (x0.set (x5 : Int).toNat bt.2) bt.1 (wrap64 (x5 + 1))) else (none)) else (some (x1, x0))
def laws_markIntSS.f (k : Nat) (l0 : List (List Int)) (a1 : Int) : Option (Int × List (List Int)) := laws_markIntSS.l0 k l0 a1 0
theorem laws_markIntSS.mono_l : ∀ k, (∀ y0 y1 y2, LeO (laws_markIntSS.l0 k y0 y1 y2) (laws_markIntSS.l0 (k + 1) y0 y1 y2))
  | 0 => fun _ _ _ r h => by simp [laws_markIntSS.l0] at h
  | k + 1 => by
    have ih0 := laws_markIntSS.mono_l k
    · intro y0 y1 y2
      unfold laws_markIntSS.l0
      repeat' first
      | (with_reducible exact ih0 _ _ _)
      | (with_reducible exact laws_markIntS.mono _ _ _)
      | (with_reducible exact LeO.refl _)
      | (with_reducible exact LeO.none _)
      | (with_reducible refine LeO.ite ?_ ?_)
      | (with_reducible refine LeO.bind ?_ (fun _ => ?_))
      | exact ih0 _ _ _
theorem laws_markIntSS.mono : ∀ a0 a1 k, LeO (laws_markIntSS.f k a0 a1) (laws_markIntSS.f (k + 1) a0 a1) := by
  intro a0 a1 k
  exact laws_markIntSS.mono_l k _ _ _
set_option maxHeartbeats 4000000 in
set_option maxRecDepth 100000 in
theorem laws_markIntSS.calls (k : Nat) (P0_ : Nat → Prop) (u9000_ : Value) (l0 : List (List Int)) (a1 : Int) (r1 : Int) (r2 : List (List Int)) (w0 w : World) (hB : Below w0.heap.size w0 w) (ho0 : Kd.S (Kd.slice 3 (Kd.int .i64)) 48 w w0.heap.size P0_ u9000_ l0) (h : laws_markIntSS.f k l0 a1 = some (r1, r2)) :
    Calls Tryd.prog 13 #[u9000_, .int .i64 a1] w fun e w' => e = .returned (.int .i64 r1) ∧ Kd.S (Kd.slice 3 (Kd.int .i64)) 48 w' w0.heap.size (fun k_ => (P0_ k_ ∨ w.heap.size ≤ k_)) u9000_ r2 ∧ Below w0.heap.size w0 w' ∧ Kept w w' (fun k_ => P0_ k_) := by
  have hbig := (Kd.S_reads ho0)
  obtain ⟨A0, c0, hu, hlc, hC⟩ := hbig
  have hmax := hC.2.1
  have HO := Aside0.mk (show Kd.S (Kd.slice 3 (Kd.int .i64)) 48 w w0.heap.size (fun k_ => (P0_ k_ ∨ w.heap.size ≤ k_)) u9000_ l0 from Kd.S_mono ho0 (fun k_ hk => .inl hk))
  have HB := Aside0.mk hB
  have HF := Aside0.mk h
  have HM := Aside0.mk hmax
  clear ho0 hB h hC hmax
  subst hu
  go_enter Tryd.func13, Tryd.ntmps13
  go_wp2
  go_loopg [1, 5] l0.length (fun gg s1 s5 wr => ∃ (i : Nat) (xs : List (List Int)) (m : Int) (kk : Nat), i ≤ l0.length ∧ l0.length - i ≤ gg ∧ s1 = .int .i64 m ∧ s5 = .int .i64 (i : Int) ∧ xs.length = l0.length ∧
    Aside0 (Kd.S (Kd.slice 3 (Kd.int .i64)) 48 wr w0.heap.size (fun k_ => (P0_ k_ ∨ w.heap.size ≤ k_)) (.slice A0 l0.length c0) xs) ∧ Aside0 (Below w0.heap.size w0 wr) ∧ Aside0 (Kept w wr (fun k_ => P0_ k_)) ∧ Aside0 (laws_markIntSS.l0 kk xs m (i : Int) = some (r1, r2)))
  case atStart => exact ⟨0, l0, a1, k, Nat.zero_le _, by omega, rfl, rfl, rfl, HO, HB, ⟨Kept.refl _ _⟩, HF⟩
  case round =>
    obtain ⟨i, xs, m, kk, hi, hg, rfl, rfl, hxl, HS, HBr, HKr, HFr⟩ := hrel
    cases kk with
    | zero => exact absurd HFr.out (by simp [laws_markIntSS.l0])
    | succ kk =>
      by_cases hlt : i < l0.length
      · have q0 : (i : Int) < (l0.length : Int) := by omega
        have q1 : ((i : Int) < (xs.length : Int)) := by omega
        have hF := HFr.out
        simp only [laws_markIntSS.l0] at hF
        rw [if_pos q1, if_pos (Int.natCast_nonneg i)] at hF
        obtain ⟨⟨m', row'⟩, hrow, hF⟩ := Option.bind_eq_some_iff.mp hF
        simp only [Int.toNat_natCast] at hF
        have hstep : wrap64 ((i : Int) + 1) = ((i + 1 : Nat) : Int) := by
          have := HM.out
          unfold wrap64; omega
        rw [hstep] at hF
        obtain ⟨g, cap, hv, hbase, hglt, _⟩ := Kd.S_form HS.out (by omega)
        rw [hxl] at hv
        injection hv with hA0 _ hcap
        subst hA0
        subst hcap
        obtain ⟨oki, c, hcl, hM, hcell, hoki, hH⟩ := Kd.S_lend HS.out ([] : List Int) (i : Int) (Int.natCast_nonneg i) q0
        obtain ⟨v, rfl, hR⟩ := hM
        have hc0 : wr.cell? ⟨g, i, none⟩ = some v := by
          have := hcell 0 v rfl
          simpa [show (Kd.slice 3 (Kd.int .i64)).sz = 1 from rfl] using this
        have HC := Aside0.mk (fun W (hW : W = wr) => laws_markIntS.calls kk oki v (xs.getD (i : Int).toNat []) m m' row' w0 wr HBr.out hR hrow)
        have HH := Aside0.mk hH
        have HI := Aside0.mk hoki
        have HF2 := Aside0.mk hF
        clear hR hH hoki hF hrow hcell HFr
        go_wp2_with fail
        refine (HC.out _ rfl).mono ?_
        rintro e w2 ⟨rfl, hR2, hB2, hK2⟩
        have hsz : w.heap.size ≤ wr.heap.size := HKr.out.1
        have hS2 : Kd.S (Kd.slice 3 (Kd.int .i64)) 48 w2 w0.heap.size (fun k_ => (P0_ k_ ∨ w.heap.size ≤ k_)) (.slice (some ⟨g, 0, none⟩) l0.length c0) (xs.set i row') := by
          have h1 := Kd.H_widen HH.out
          have h2 := Kd.H_step (w1 := w2) h1 (fun q hq hn hlt2 => hK2.2 q hlt2 (fun ho => hn (.inl ho)))
          exact Kd.H_back h2 (x' := row') (okp := fun k_ => (oki k_ ∨ wr.heap.size ≤ k_)) ⟨v, rfl, hR2⟩ (fun q hq => hq.elim (fun ho => .inl ho) (fun hn => .inr ⟨.inr (Nat.le_trans hsz hn), hn⟩))
        have hK3 : Kept w w2 (fun k_ => P0_ k_) := Kept.then_ HKr.out hK2 (fun q hq => (HI.out q hq).1)
        have S2 := Aside0.mk hS2
        have K3 := Aside0.mk hK3
        have B2 := Aside0.mk hB2
        clear hS2 hK3 hB2 hR2 hK2 hsz
        go_wp2_with fail
        go_roundg (l0.length - (i + 1))
        (case measure => omega)
        (case rel => exact ⟨i + 1, xs.set i row', m', kk, by omega, Nat.le_refl _, rfl, by go_num, by simpa using hxl, S2, B2, K3, HF2⟩)
      · have q0 : ¬ (i : Int) < (l0.length : Int) := by omega
        have q1 : ¬ ((i : Int) < (xs.length : Int)) := by omega
        have hF := HFr.out
        simp only [laws_markIntSS.l0] at hF
        rw [if_neg q1] at hF
        injection hF with hF
        injection hF with e1 e2
        subst e1
        subst e2
        go_wp2_with fail
        go_ret
        exact ⟨rfl, HS.out, HBr.out, HKr.out⟩

/-! ### laws_heldIntS: function 37 -/
def laws_heldIntS.l0 : Nat → List Int → Int → Int → Option (Int)
  | 0, _, _, _ => none
  | k + 1, x0, x1, x5 => if x5 < (x0.length : Int) then (if 0 ≤ x5 then (if (rd x0 x5) = x1 then (laws_heldIntS.l0 k x0 (wrap64 (x1 + 1)) (wrap64 (x5 + 1))) else (some (-1))) else (none)) else (some x1)
def laws_heldIntS.f (k : Nat) (l0 : List Int) (a1 : Int) : Option (Int) := laws_heldIntS.l0 k l0 a1 0
theorem laws_heldIntS.mono_l : ∀ k, (∀ y0 y1 y2, LeO (laws_heldIntS.l0 k y0 y1 y2) (laws_heldIntS.l0 (k + 1) y0 y1 y2))
  | 0 => fun _ _ _ r h => by simp [laws_heldIntS.l0] at h
  | k + 1 => by
    have ih0 := laws_heldIntS.mono_l k
    · intro y0 y1 y2
      unfold laws_heldIntS.l0
      repeat' first
      | (with_reducible exact ih0 _ _ _)
      | (with_reducible exact LeO.refl _)
      | (with_reducible exact LeO.none _)
      | (with_reducible refine LeO.ite ?_ ?_)
      | (with_reducible refine LeO.bind ?_ (fun _ => ?_))
      | exact ih0 _ _ _
      | exact LeO.none _
      | refine LeO.ite ?_ ?_
      | refine LeO.bind ?_ (fun _ => ?_)
theorem laws_heldIntS.mono : ∀ a0 a1 k, LeO (laws_heldIntS.f k a0 a1) (laws_heldIntS.f (k + 1) a0 a1) := by
  intro a0 a1 k
  have ih0 := laws_heldIntS.mono_l k
  unfold laws_heldIntS.f
  repeat' first
      | (with_reducible exact ih0 _ _ _)
      | (with_reducible exact LeO.refl _)
      | (with_reducible exact LeO.none _)
      | (with_reducible refine LeO.ite ?_ ?_)
      | (with_reducible refine LeO.bind ?_ (fun _ => ?_))
      | exact ih0 _ _ _
      | exact LeO.none _
      | refine LeO.ite ?_ ?_
      | refine LeO.bind ?_ (fun _ => ?_)
set_option maxHeartbeats 8000000 in
set_option maxRecDepth 100000 in
theorem laws_heldIntS.calls (k : Nat) (A0 : Option Addr) (c0 : Nat) (l0 : List Int) (a1 : Int) (r : Int) (w : World) (hr0 : Kd.C (Kd.int .i64) w A0 l0.length l0) (hc0 : l0.length ≤ c0) (h : laws_heldIntS.f k l0 a1 = some r) :
    Calls Tryd.prog 37 #[.slice A0 l0.length c0, .int .i64 a1] w fun e w' => e = .returned (.int .i64 r) ∧ Drawn0 w w' := by
  have HR0 := Aside0.mk hr0
  have HC0 := Aside0.mk hc0
  clear hr0 hc0
  have H : (laws_heldIntS.l0 k l0 a1 0) = some r := h
  clear h
  have H' := Aside0.mk H
  clear H
  go_enter Tryd.func37, Tryd.ntmps37
  go_wp2
  go_loopg [1, 5] k (fun kq v1 v5 w' => ∃ (x1_1 : Int) (x5_1 : Int), v1 = .int .i64 x1_1 ∧ v5 = .int .i64 x5_1 ∧ Aside0 (laws_heldIntS.l0 kq l0 x1_1 x5_1 = some r) ∧ Aside0 (kq ≤ k) ∧ Drawn0 w w')
  case atStart => exact ⟨(a1), (0), (by first | rfl | (simp; done) | (simp [*]; done)), (by first | rfl | (simp; done) | (simp [*]; done)), H', ⟨Nat.le_refl _⟩, by repeat (first | exact Drawn0.refl _ | apply Drawn0.step)⟩
  case round =>
    clear H'
    try clear p2
    obtain ⟨x1_1, x5_1, rfl, rfl, HA, HK1, ⟨m1, rfl⟩⟩ := hrel
    cases gk with
    | zero => exact absurd HA.out (by simp [laws_heldIntS.l0])
    | succ k1 =>
      have H := HA.out
      clear HA
      simp only [laws_heldIntS.l0] at H
      by_cases c3 : x5_1 < (l0.length : Int)
      · rw [if_pos c3] at H
        have c3b0 : decide (x5_1 < (l0.length : Int)) = true := decide_eq_true c3
        clear c3
        by_cases c4 : 0 ≤ x5_1
        · rw [if_pos c4] at H
          have c4b0 : decide (0 ≤ x5_1) = true := decide_eq_true c4
          clear c4
          by_cases c5 : (rd l0 x5_1) = x1_1
          · rw [if_pos c5] at H
            have c5b0 : ((rd l0 x5_1) == x1_1) = true := beq_iff_eq.mpr c5
            have c5b1 : ((rd l0 x5_1) != x1_1) = false := bne_eq_false_iff_eq.mpr c5
            clear c5
            have H' := Aside0.mk H
            clear H
            have p196 : 0 ≤ (x5_1 : Int) := of_decide_eq_true (by first | (with_reducible assumption) | assumption)
            have q196 : x5_1 < (l0.length : Int) := of_decide_eq_true (by first | (with_reducible assumption) | assumption)
            obtain ⟨ad196, e196, hx196_0⟩ := Kd.at_int HR0.out x5_1 p196 q196
            cases e196
            replace p196 := eq_true p196
            replace q196 := eq_true q196
            go_wp2
            go_roundg k1
            case measure => have := HK1.out; omega
            case rel => exact ⟨(wrap64 (x1_1 + 1)), (wrap64 (x5_1 + 1)), (by first | rfl | (simp; done) | (simp [*]; done)), (by first | rfl | (simp; done) | (simp [*]; done)), H', ⟨by have := HK1.out; omega⟩, by repeat (first | exact Drawn0.refl _ | apply Drawn0.step)⟩
          · rw [if_neg c5] at H
            have c5b0 : ((rd l0 x5_1) == x1_1) = false := beq_eq_false_iff_ne.mpr c5
            have c5b1 : ((rd l0 x5_1) != x1_1) = true := bne_iff_ne.mpr c5
            obtain rfl := Option.some.inj H
            have p196 : 0 ≤ (x5_1 : Int) := of_decide_eq_true (by first | (with_reducible assumption) | assumption)
            have q196 : x5_1 < (l0.length : Int) := of_decide_eq_true (by first | (with_reducible assumption) | assumption)
            obtain ⟨ad196, e196, hx196_0⟩ := Kd.at_int HR0.out x5_1 p196 q196
            cases e196
            replace p196 := eq_true p196
            replace q196 := eq_true q196
            go_wp2
            go_ret
            exact ⟨by first | rfl | (simp; done) | (simp [*]; done), by repeat (first | exact Drawn0.refl _ | apply Drawn0.step)⟩
        · rw [if_neg c4] at H
          exact absurd H (by simp)
      · rw [if_neg c3] at H
        have c3b0 : decide (x5_1 < (l0.length : Int)) = false := decide_eq_false c3
        clear c3
        obtain rfl := Option.some.inj H
        go_wp2
        go_ret
        exact ⟨by first | rfl | (simp; done) | (simp [*]; done), by repeat (first | exact Drawn0.refl _ | apply Drawn0.step)⟩

/-! ### laws_heldIntSS: function 14 -/
def laws_heldIntSS.l0 : Nat → List (List Int) → Int → Int → Option (Int)
  | 0, _, _, _ => none
  | k + 1, x0, x1, x5 => if x5 < (x0.length : Int) then (if 0 ≤ x5 then ((laws_heldIntS.f k (rd_L1 x0 x5) x1).bind fun t198 => (if t198 < 0 then (some (-1)) else (laws_heldIntSS.l0 k x0 t198 (wrap64 (x5 + 1))))) else (none)) else (some x1)
def laws_heldIntSS.f (k : Nat) (l0 : List (List Int)) (a1 : Int) : Option (Int) := laws_heldIntSS.l0 k l0 a1 0
theorem laws_heldIntSS.mono_l : ∀ k, (∀ y0 y1 y2, LeO (laws_heldIntSS.l0 k y0 y1 y2) (laws_heldIntSS.l0 (k + 1) y0 y1 y2))
  | 0 => fun _ _ _ r h => by simp [laws_heldIntSS.l0] at h
  | k + 1 => by
    have ih0 := laws_heldIntSS.mono_l k
    · intro y0 y1 y2
      unfold laws_heldIntSS.l0
      repeat' first
      | (with_reducible exact ih0 _ _ _)
      | (with_reducible exact laws_heldIntS.mono _ _ _)
      | (with_reducible exact LeO.refl _)
      | (with_reducible exact LeO.none _)
      | (with_reducible refine LeO.ite ?_ ?_)
      | (with_reducible refine LeO.bind ?_ (fun _ => ?_))
      | exact ih0 _ _ _
      | exact laws_heldIntS.mono _ _ _
      | exact LeO.none _
      | refine LeO.ite ?_ ?_
      | refine LeO.bind ?_ (fun _ => ?_)
theorem laws_heldIntSS.mono : ∀ a0 a1 k, LeO (laws_heldIntSS.f k a0 a1) (laws_heldIntSS.f (k + 1) a0 a1) := by
  intro a0 a1 k
  have ih0 := laws_heldIntSS.mono_l k
  unfold laws_heldIntSS.f
  repeat' first
      | (with_reducible exact ih0 _ _ _)
      | (with_reducible exact laws_heldIntS.mono _ _ _)
      | (with_reducible exact LeO.refl _)
      | (with_reducible exact LeO.none _)
      | (with_reducible refine LeO.ite ?_ ?_)
      | (with_reducible refine LeO.bind ?_ (fun _ => ?_))
      | exact ih0 _ _ _
      | exact laws_heldIntS.mono _ _ _
      | exact LeO.none _
      | refine LeO.ite ?_ ?_
      | refine LeO.bind ?_ (fun _ => ?_)
set_option maxHeartbeats 8000000 in
set_option maxRecDepth 100000 in
theorem laws_heldIntSS.calls (k : Nat) (A0 : Option Addr) (c0 : Nat) (l0 : List (List Int)) (a1 : Int) (r : Int) (w : World) (hr0 : Kd.C (Kd.slice 3 (Kd.int .i64)) w A0 l0.length l0) (hc0 : l0.length ≤ c0) (h : laws_heldIntSS.f k l0 a1 = some r) :
    Calls Tryd.prog 14 #[.slice A0 l0.length c0, .int .i64 a1] w fun e w' => e = .returned (.int .i64 r) ∧ Drawn0 w w' := by
  have HR0 := Aside0.mk hr0
  have HC0 := Aside0.mk hc0
  clear hr0 hc0
  have H : (laws_heldIntSS.l0 k l0 a1 0) = some r := h
  clear h
  have H' := Aside0.mk H
  clear H
  go_enter Tryd.func14, Tryd.ntmps14
  go_wp2
  go_loopg [1, 5] k (fun kq v1 v5 w' => ∃ (x1_1 : Int) (x5_1 : Int), v1 = .int .i64 x1_1 ∧ v5 = .int .i64 x5_1 ∧ Aside0 (laws_heldIntSS.l0 kq l0 x1_1 x5_1 = some r) ∧ Aside0 (kq ≤ k) ∧ Drawn0 w w')
  case atStart => exact ⟨(a1), (0), (by first | rfl | (simp; done) | (simp [*]; done)), (by first | rfl | (simp; done) | (simp [*]; done)), H', ⟨Nat.le_refl _⟩, by repeat (first | exact Drawn0.refl _ | apply Drawn0.step)⟩
  case round =>
    clear H'
    try clear c1
    try clear p2
    obtain ⟨x1_1, x5_1, rfl, rfl, HA, HK1, ⟨m1, rfl⟩⟩ := hrel
    cases gk with
    | zero => exact absurd HA.out (by simp [laws_heldIntSS.l0])
    | succ k1 =>
      have H := HA.out
      clear HA
      simp only [laws_heldIntSS.l0] at H
      by_cases c3 : x5_1 < (l0.length : Int)
      · rw [if_pos c3] at H
        have c3b0 : decide (x5_1 < (l0.length : Int)) = true := decide_eq_true c3
        clear c3
        by_cases c4 : 0 ≤ x5_1
        · rw [if_pos c4] at H
          have c4b0 : decide (0 ≤ x5_1) = true := decide_eq_true c4
          clear c4
          replace H := Option.bind_eq_some_iff.mp H
          obtain ⟨t198, A50, H⟩ := H
          replace H : (if t198 < 0 then (some (-1)) else (laws_heldIntSS.l0 k1 l0 t198 (wrap64 (x5_1 + 1)))) = some r := H
          have A5 := Aside0.mk A50
          clear A50
          by_cases c6 : t198 < 0
          · rw [if_pos c6] at H
            have c6b0 : decide (t198 < 0) = true := decide_eq_true c6
            clear c6
            obtain rfl := Option.some.inj H
            have p197 : 0 ≤ (x5_1 : Int) := of_decide_eq_true (by first | (with_reducible assumption) | assumption)
            have q197 : x5_1 < (l0.length : Int) := of_decide_eq_true (by first | (with_reducible assumption) | assumption)
            obtain ⟨ad197, A197_0, c197_0, e197, hx197_0, hl197_0, hi197_0⟩ := at_L1 HR0.out x5_1 p197 q197
            cases e197
            have HR197_0 := Aside0.mk hi197_0
            have HC197_0 := Aside0.mk hl197_0
            clear hi197_0 hl197_0
            replace p197 := eq_true p197
            replace q197 := eq_true q197
            go_wp2_with (first | ((with_reducible refine gate_callee (f := 37) rfl ?_); refine goesL_ (some 17) rfl rfl Tryd.func37 (by kernel_rfl) rfl #[.slice A197_0 (rd_L1 l0 x5_1).length c197_0, .int .i64 x1_1] rfl (by (try simp only [List.map_toArray, List.map_cons, List.map_nil]); first | done | rfl | (simp only [List.length_drop, List.length_take]; rfl)) ?_; (with_reducible refine (laws_heldIntS.calls k1 _ _ (rd_L1 l0 x5_1) x1_1 t198 _ ?side1 ?side2 A5.out).mono ?_); (case side1 => repeat (first | exact HR197_0.out | (with_reducible refine Kd.C_alloc ?_ _) | (with_reducible refine Kd.C_drewN ?_ _) | (with_reducible refine Kd.C_drew ?_))); (case side2 => exact HC197_0.out); rintro e w' ⟨rfl, ⟨nd, rfl⟩⟩; refine ⟨_, rfl, ?_⟩))
            go_ret
            exact ⟨by first | rfl | (simp; done) | (simp [*]; done), by repeat (first | exact Drawn0.refl _ | apply Drawn0.step)⟩
          · rw [if_neg c6] at H
            have c6b0 : decide (t198 < 0) = false := decide_eq_false c6
            clear c6
            have H' := Aside0.mk H
            clear H
            have p197 : 0 ≤ (x5_1 : Int) := of_decide_eq_true (by first | (with_reducible assumption) | assumption)
            have q197 : x5_1 < (l0.length : Int) := of_decide_eq_true (by first | (with_reducible assumption) | assumption)
            obtain ⟨ad197, A197_0, c197_0, e197, hx197_0, hl197_0, hi197_0⟩ := at_L1 HR0.out x5_1 p197 q197
            cases e197
            have HR197_0 := Aside0.mk hi197_0
            have HC197_0 := Aside0.mk hl197_0
            clear hi197_0 hl197_0
            replace p197 := eq_true p197
            replace q197 := eq_true q197
            go_wp2_with (first | ((with_reducible refine gate_callee (f := 37) rfl ?_); refine goesL_ (some 17) rfl rfl Tryd.func37 (by kernel_rfl) rfl #[.slice A197_0 (rd_L1 l0 x5_1).length c197_0, .int .i64 x1_1] rfl (by (try simp only [List.map_toArray, List.map_cons, List.map_nil]); first | done | rfl | (simp only [List.length_drop, List.length_take]; rfl)) ?_; (with_reducible refine (laws_heldIntS.calls k1 _ _ (rd_L1 l0 x5_1) x1_1 t198 _ ?side1 ?side2 A5.out).mono ?_); (case side1 => repeat (first | exact HR197_0.out | (with_reducible refine Kd.C_alloc ?_ _) | (with_reducible refine Kd.C_drewN ?_ _) | (with_reducible refine Kd.C_drew ?_))); (case side2 => exact HC197_0.out); rintro e w' ⟨rfl, ⟨nd, rfl⟩⟩; refine ⟨_, rfl, ?_⟩))
            go_roundg k1
            case measure => have := HK1.out; omega
            case rel => exact ⟨(t198), (wrap64 (x5_1 + 1)), (by first | rfl | (simp; done) | (simp [*]; done)), (by first | rfl | (simp; done) | (simp [*]; done)), H', ⟨by have := HK1.out; omega⟩, by repeat (first | exact Drawn0.refl _ | apply Drawn0.step)⟩
        · rw [if_neg c4] at H
          exact absurd H (by simp)
      · rw [if_neg c3] at H
        have c3b0 : decide (x5_1 < (l0.length : Int)) = false := decide_eq_false c3
        clear c3
        obtain rfl := Option.some.inj H
        go_wp2
        go_ret
        exact ⟨by first | rfl | (simp; done) | (simp [*]; done), by repeat (first | exact Drawn0.refl _ | apply Drawn0.step)⟩

/-! ### laws_FnExactPathOf: function 3 (given by hand) -/
def laws_FnExactPathOf.f (k : Nat) (a0 : Int) (a1 : ByteArray) : Option Bool :=
  if a1.size ≤ 1048576 then (spec_PathOf.f k a0 a1).bind fun bw => (impl_PathOf.f k a0 a1).bind fun bg =>
    (laws_eqIntSS.f k bg.1 bw.1).bind fun e1 => (laws_markIntSS.f k bg.1 1).bind fun mm => (laws_heldIntSS.f k mm.2 1).bind fun hq =>
      if e1 = true ∧ bg.2 = bw.2 ∧ 0 ≤ hq ∧ hq = mm.1 then some true else none
  else some true
set_option maxHeartbeats 1000000 in
set_option maxRecDepth 100000 in
theorem pathOf_law_walk (a0 : Int) (a1 : ByteArray) (lw lg : List (List Int)) (b : Bool) (mm : Int) (mml : List (List Int)) (k : Nat) (w : World) (hmm : ¬ mm < 0) (hsz : a1.size ≤ 1048576)
    (HSP : Aside0 (spec_PathOf.f k a0 a1 = some (lw, b))) (HIM : Aside0 (impl_PathOf.f k a0 a1 = some (lg, b))) (HEQ : Aside0 (laws_eqIntSS.f k lg lw = some true))
    (HMM : Aside0 (laws_markIntSS.f k lg 1 = some (mm, mml))) (HHE : Aside0 (laws_heldIntSS.f k mml 1 = some mm)) :
    Calls Tryd.prog 3 #[.int .i64 a0, .string a1] w fun e w' => e = .returned (.bool true) ∧ Below w.heap.size w w' := by
  have hz0 : ¬ (a1.size : Int) > 1048576 := by omega
  have hz1 : decide ((a1.size : Int) > 1048576) = false := decide_eq_false hz0
  have hz2 : ¬ (1048576 : Int) < (a1.size : Int) := by omega
  go_enter Tryd.func3, Tryd.ntmps3
  -- spec
  go_wp2_with fail
  refine (spec_PathOf.calls k a0 a1 lw b _ HSP.out).mono ?_
  rintro e w3 ⟨v0, rfl, hW, b3⟩
  have B3 := Aside0.mk b3
  have HW := Aside0.mk hW
  clear hW b3
  -- impl
  go_wp2_with fail
  refine (impl_PathOf.calls k a0 a1 lg b _ HIM.out).mono ?_
  rintro e w5 ⟨vg, rfl, hG, b5⟩
  have D5 := Aside0.mk b5
  have B5 := Aside0.mk (below_step B3.out b5)
  obtain ⟨Ag, cg, rfl, hlg, hCg⟩ := Kd.S_reads hG
  obtain ⟨Aw, cw, rfl, hlw, _⟩ := Kd.S_reads HW.out
  have HG := Aside0.mk hG
  have CEQ := Aside0.mk (fun W (h1 : Kd.C (Kd.slice 3 (Kd.int .i64)) W Ag lg.length lg) (h2 : Kd.C (Kd.slice 3 (Kd.int .i64)) W Aw lw.length lw) => laws_eqIntSS.calls k Ag cg lg Aw cw lw true W h1 hlg h2 hlw HEQ.out)
  have readW := Aside0.mk (fun W (hb : Below w3.heap.size w3 W) => (Kd.S_reads' (Kd.S_below HW.out hb)).2.2)
  clear hG hCg b5
  -- eqIntSS
  go_wp2_with fail
  refine (CEQ.out _ (Kd.S_reads' HG.out).2.2 (readW.out _ D5.out)).mono ?_
  rintro e w6 ⟨rfl, hd6⟩
  have D6 := Aside0.mk (below_step D5.out hd6.below)
  have B6 := Aside0.mk (below_step B5.out hd6.below)
  have HG6 := Aside0.mk (Kd.S_below HG.out hd6.below)
  have HG7 := Aside0.mk (show Kd.S (Kd.slice 3 (Kd.int .i64)) 48 w6 w3.heap.size (fun k_ => w3.heap.size ≤ k_) (.slice Ag lg.length cg) lg from Kd.S_mono (Kd.S_bound HG6.out) (fun q hq => hq.2.1))
  have CMM := Aside0.mk (laws_markIntSS.calls k (fun k_ => w3.heap.size ≤ k_) (.slice Ag lg.length cg) lg 1 mm mml w3 w6 D6.out HG7.out HMM.out)
  clear hd6
  -- markIntSS
  go_wp2_with fail
  refine CMM.out.mono ?_
  rintro e w11 ⟨rfl, hM, b11, _⟩
  have D11 := Aside0.mk b11
  have B11 := Aside0.mk (below_step B3.out b11)
  have HM := Aside0.mk hM
  obtain ⟨hml1, hml2, hCm⟩ := Kd.S_reads' hM
  have hle : mml.length ≤ cg := by rw [← hml1]; exact hml2
  have hCHE : ∀ W, Kd.C (Kd.slice 3 (Kd.int .i64)) W Ag mml.length mml → Calls Tryd.prog 14 #[.slice Ag lg.length cg, .int .i64 1] W (fun e w' => e = .returned (.int .i64 mm) ∧ Drawn0 W w') := by
    intro W h1
    rw [hml1]
    exact laws_heldIntSS.calls k Ag cg mml 1 mm W h1 hle HHE.out
  have CHE := Aside0.mk hCHE
  clear hCHE hle hml1 hml2 hM hCm b11
  -- heldIntSS
  go_wp2_with fail
  refine (CHE.out _ (Kd.S_reads' HM.out).2.2).mono ?_
  rintro e w12 ⟨rfl, hd12⟩
  have D12 := Aside0.mk (below_step D11.out hd12.below)
  have B12 := Aside0.mk (below_step B11.out hd12.below)
  have E12 := Aside0.mk hd12.below
  clear hd12
  -- impl again
  go_wp2_with fail
  refine (impl_PathOf.calls k a0 a1 lg b _ HIM.out).mono ?_
  rintro e w14 ⟨vh, rfl, hH, b14⟩
  have D14 := Aside0.mk (below_step D12.out b14)
  have B14 := Aside0.mk (below_step B12.out b14)
  have E14 := Aside0.mk (below_step E12.out b14)
  obtain ⟨Ah, ch, rfl, hlh, hCh⟩ := Kd.S_reads hH
  have CEQ2 := Aside0.mk (fun W (hW : W = w14) (h2 : Kd.C (Kd.slice 3 (Kd.int .i64)) W Aw lw.length lw) => laws_eqIntSS.calls k Ah ch lg Aw cw lw true W (hW ▸ hCh) hlh h2 hlw HEQ.out)
  clear hH hCh b14 CEQ
  go_wp2_with fail
  refine (CEQ2.out _ rfl (readW.out _ D14.out)).mono ?_
  rintro e w15 ⟨rfl, hd15⟩
  have B15 := Aside0.mk (below_step B14.out hd15.below)
  have E15 := Aside0.mk (below_step E14.out hd15.below)
  clear hd15
  go_wp2_with fail
  refine (CHE.out _ (Kd.S_reads' (Kd.S_below HM.out E15.out)).2.2).mono ?_
  rintro e w16 ⟨rfl, hd16⟩
  have B16 := Aside0.mk (below_step B15.out hd16.below)
  clear hd16
  go_wp2_with fail
  go_ret
  exact ⟨rfl, B16.out⟩
theorem laws_FnExactPathOf.calls (k : Nat) (a0 : Int) (a1 : ByteArray) (r : Bool) (w : World) (h : laws_FnExactPathOf.f k a0 a1 = some r) :
    Calls Tryd.prog 3 #[.int .i64 a0, .string a1] w fun e w' => e = .returned (.bool r) ∧ Below w.heap.size w w' := by
  unfold laws_FnExactPathOf.f at h
  split at h
  · rename_i hsz
    obtain ⟨⟨lw, bw⟩, hsp, h3⟩ := Option.bind_eq_some_iff.mp h
    obtain ⟨⟨lg, bg⟩, him, h4⟩ := Option.bind_eq_some_iff.mp h3
    obtain ⟨e1, heq, h5⟩ := Option.bind_eq_some_iff.mp h4
    obtain ⟨⟨mm, mml⟩, hmm, h8⟩ := Option.bind_eq_some_iff.mp h5
    obtain ⟨hq, hhe, h9⟩ := Option.bind_eq_some_iff.mp h8
    clear h h3 h4 h5 h8
    split at h9
    · rename_i hc
      obtain ⟨q1, q2, q5, q6⟩ := hc
      simp only at q1 q2 q5 q6
      subst q1; subst q2; subst q6
      obtain rfl := Option.some.inj h9
      exact pathOf_law_walk a0 a1 lw lg bg hq mml k w (by omega) hsz ⟨hsp⟩ ⟨him⟩ ⟨heq⟩ ⟨hmm⟩ ⟨hhe⟩
    · cases h9
  · rename_i hsz
    obtain rfl := Option.some.inj h
    have hz0 : (a1.size : Int) > 1048576 := by omega
    have hz1 : decide ((a1.size : Int) > 1048576) = true := decide_eq_true hz0
    have hz2 : (1048576 : Int) < (a1.size : Int) := by omega
    clear hsz h
    go_enter Tryd.func3, Tryd.ntmps3
    go_wp2_with fail
    go_ret
    exact ⟨rfl, Below.refl _ _⟩

/-! ### spec_paOther: function 38 -/
def spec_paOther.f (a0 : Int) : Option (ByteArray) := if a0 = 76 then (some (⟨#[82]⟩ : ByteArray)) else (if a0 = 82 then (some (⟨#[76]⟩ : ByteArray)) else (some (⟨#[70]⟩ : ByteArray)))
set_option maxHeartbeats 8000000 in
set_option maxRecDepth 100000 in
theorem spec_paOther.calls (a0 : Int) (r : ByteArray) (w : World) (h : spec_paOther.f a0 = some r) :
    Calls Tryd.prog 38 #[.int .u8 a0] w fun e w' => e = .returned (.string r) ∧ Drawn0 w w' := by
  have H : (if a0 = 76 then (some (⟨#[82]⟩ : ByteArray)) else (if a0 = 82 then (some (⟨#[76]⟩ : ByteArray)) else (some (⟨#[70]⟩ : ByteArray)))) = some r := h
  clear h
  by_cases c2 : a0 = 76
  · rw [if_pos c2] at H
    have c2b0 : (a0 == 76) = true := beq_iff_eq.mpr c2
    have c2b1 : (a0 != 76) = false := bne_eq_false_iff_eq.mpr c2
    clear c2
    obtain rfl := Option.some.inj H
    go_enter Tryd.func38, Tryd.ntmps38
    go_wp2
    go_ret
    exact ⟨by first | rfl | (simp; done) | (simp [*]; done), by repeat (first | exact Drawn0.refl _ | apply Drawn0.step)⟩
  · rw [if_neg c2] at H
    have c2b0 : (a0 == 76) = false := beq_eq_false_iff_ne.mpr c2
    have c2b1 : (a0 != 76) = true := bne_iff_ne.mpr c2
    by_cases c3 : a0 = 82
    · rw [if_pos c3] at H
      have c3b0 : (a0 == 82) = true := beq_iff_eq.mpr c3
      have c3b1 : (a0 != 82) = false := bne_eq_false_iff_eq.mpr c3
      clear c3
      obtain rfl := Option.some.inj H
      go_enter Tryd.func38, Tryd.ntmps38
      go_wp2
      go_ret
      exact ⟨by first | rfl | (simp; done) | (simp [*]; done), by repeat (first | exact Drawn0.refl _ | apply Drawn0.step)⟩
    · rw [if_neg c3] at H
      have c3b0 : (a0 == 82) = false := beq_eq_false_iff_ne.mpr c3
      have c3b1 : (a0 != 82) = true := bne_iff_ne.mpr c3
      obtain rfl := Option.some.inj H
      go_enter Tryd.func38, Tryd.ntmps38
      go_wp2
      go_ret
      exact ⟨by first | rfl | (simp; done) | (simp [*]; done), by repeat (first | exact Drawn0.refl _ | apply Drawn0.step)⟩

end Go.Proofs.YtceoaondcnhaeaaDoor.X
