-- Written by a program of this work (wip/tools/xprint.py, which drives the kit's print over a whole seat). Not trusted: it is checked when it is built.
import Derived.Test.YtknpnhgedcggkaaXx0
import Derived.Test.YtknpnhgedcggkaaXx2
import Derived.Test.YtknpnhgedcggkaaXx4
import Derived.Test.YtknpnhgedcggkaaXx8
import Derived.Test.YtknpnhgedcggkaaXx9
namespace Go.Proofs.Ytknpnhgedcggkaa.X
open Go.RowKit Go.Proofs.YtknpnhgedcggkaaW.PrintWords Go.Proofs.YtknpnhgedcggkaaW.PrintLast Go.Proofs.YtknpnhgedcggkaaW.PrintMore
attribute [local go_sem] max2_int min2_int max_two min_two max_three min_three max_four min_four   -- for this text's walks alone
set_option linter.unusedVariables false
set_option linter.unusedSimpArgs false

/-! ### laws_markIntSS: function 26 (given by hand) -/
def laws_markIntSS.l0 : Nat → List (List Int) → Int → Int → Option (Int × List (List Int))
  | 0, _, _, _ => none
  | k + 1, x0, x1, x5 => if x5 < (x0.length : Int) then (if 0 ≤ x5 then ((laws_markIntS.f k (x0.getD (x5 : Int).toNat []) x1).bind fun bt => laws_markIntSS.l0 k (x0.set (x5 : Int).toNat bt.2) bt.1 (wrap64 (x5 + 1))) else (none)) else (some (x1, x0))
def laws_markIntSS.f (k : Nat) (l0 : List (List Int)) (a1 : Int) : Option (Int × List (List Int)) := laws_markIntSS.l0 k l0 a1 0
theorem laws_markIntSS.mono_l : ∀ k, (∀ y0 y1 y2, LeO (laws_markIntSS.l0 k y0 y1 y2) (laws_markIntSS.l0 (k + 1) y0 y1 y2))
  | 0 => fun _ _ _ r h => by simp [laws_markIntSS.l0] at h
  | k + 1 => by
    have ih0 := laws_markIntSS.mono_l k
    · intro y0 y1 y2
      unfold laws_markIntSS.l0
      repeat' first
      | (with_reducible exact ih0 _ _ _)
      | (with_reducible exact laws_markIntS.mono _ _ _)
      | (with_reducible exact LeO.refl _)
      | (with_reducible exact LeO.none _)
      | (with_reducible refine LeO.ite ?_ ?_)
      | (with_reducible refine LeO.bind ?_ (fun _ => ?_))
      | exact ih0 _ _ _
theorem laws_markIntSS.mono : ∀ a0 a1 k, LeO (laws_markIntSS.f k a0 a1) (laws_markIntSS.f (k + 1) a0 a1) := by
  intro a0 a1 k
  exact laws_markIntSS.mono_l k _ _ _
set_option maxHeartbeats 4000000 in
set_option maxRecDepth 100000 in
theorem laws_markIntSS.calls (k : Nat) (P0_ : Nat → Prop) (u9000_ : Value) (l0 : List (List Int)) (a1 : Int) (r1 : Int) (r2 : List (List Int)) (w0 w : World) (hB : Below w0.heap.size w0 w) (ho0 : Kd.S (Kd.slice 3 (Kd.int .i64)) 24 w w0.heap.size P0_ u9000_ l0) (h : laws_markIntSS.f k l0 a1 = some (r1, r2)) :
    Calls Try.prog 26 #[u9000_, .int .i64 a1] w fun e w' => e = .returned (.int .i64 r1) ∧ Kd.S (Kd.slice 3 (Kd.int .i64)) 24 w' w0.heap.size (fun k_ => (P0_ k_ ∨ w.heap.size ≤ k_)) u9000_ r2 ∧ Below w0.heap.size w0 w' ∧ Kept w w' (fun k_ => P0_ k_) := by
  have hbig := (Kd.S_reads ho0)
  obtain ⟨A0, c0, hu, hlc, hC⟩ := hbig
  have hmax := hC.2.1
  have HO := Aside0.mk (show Kd.S (Kd.slice 3 (Kd.int .i64)) 24 w w0.heap.size (fun k_ => (P0_ k_ ∨ w.heap.size ≤ k_)) u9000_ l0 from Kd.S_mono ho0 (fun k_ hk => .inl hk))
  have HB := Aside0.mk hB
  have HF := Aside0.mk h
  have HM := Aside0.mk hmax
  clear ho0 hB h hC hmax
  subst hu
  go_enter Try.func26, Try.ntmps26
  go_wp2
  go_loopg [1, 5] l0.length (fun gg s1 s5 wr => ∃ (i : Nat) (xs : List (List Int)) (m : Int) (kk : Nat), i ≤ l0.length ∧ l0.length - i ≤ gg ∧ s1 = .int .i64 m ∧ s5 = .int .i64 (i : Int) ∧ xs.length = l0.length ∧
    Aside0 (Kd.S (Kd.slice 3 (Kd.int .i64)) 24 wr w0.heap.size (fun k_ => (P0_ k_ ∨ w.heap.size ≤ k_)) (.slice A0 l0.length c0) xs) ∧ Aside0 (Below w0.heap.size w0 wr) ∧ Aside0 (Kept w wr (fun k_ => P0_ k_)) ∧ Aside0 (laws_markIntSS.l0 kk xs m (i : Int) = some (r1, r2)))
  case atStart => exact ⟨0, l0, a1, k, Nat.zero_le _, by omega, rfl, rfl, rfl, HO, HB, ⟨Kept.refl _ _⟩, HF⟩
  case round =>
    obtain ⟨i, xs, m, kk, hi, hg, rfl, rfl, hxl, HS, HBr, HKr, HFr⟩ := hrel
    cases kk with
    | zero => exact absurd HFr.out (by simp [laws_markIntSS.l0])
    | succ kk =>
      by_cases hlt : i < l0.length
      · have q0 : (i : Int) < (l0.length : Int) := by omega
        have q1 : ((i : Int) < (xs.length : Int)) := by omega
        have hF := HFr.out
        simp only [laws_markIntSS.l0] at hF
        rw [if_pos q1, if_pos (Int.natCast_nonneg i)] at hF
        obtain ⟨⟨m', row'⟩, hrow, hF⟩ := Option.bind_eq_some_iff.mp hF
        simp only [Int.toNat_natCast] at hF
        have hstep : wrap64 ((i : Int) + 1) = ((i + 1 : Nat) : Int) := by
          have := HM.out
          unfold wrap64; omega
        rw [hstep] at hF
        obtain ⟨g, cap, hv, hbase, hglt, _⟩ := Kd.S_form HS.out (by omega)
        rw [hxl] at hv
        injection hv with hA0 _ hcap
        subst hA0
        subst hcap
        obtain ⟨oki, c, hcl, hM, hcell, hoki, hH⟩ := Kd.S_lend HS.out ([] : List Int) (i : Int) (Int.natCast_nonneg i) q0
        obtain ⟨v, rfl, hR⟩ := hM
        have hc0 : wr.cell? ⟨g, i, none⟩ = some v := by
          have := hcell 0 v rfl
          simpa [show (Kd.slice 3 (Kd.int .i64)).sz = 1 from rfl] using this
        have HC := Aside0.mk (fun W (hW : W = wr) => laws_markIntS.calls kk oki v (xs.getD (i : Int).toNat []) m m' row' w0 wr HBr.out hR hrow)
        have HH := Aside0.mk hH
        have HI := Aside0.mk hoki
        have HF2 := Aside0.mk hF
        clear hR hH hoki hF hrow hcell HFr
        go_wp2_with fail
        refine (HC.out _ rfl).mono ?_
        rintro e w2 ⟨rfl, hR2, hB2, hK2⟩
        have hsz : w.heap.size ≤ wr.heap.size := HKr.out.1
        have hS2 : Kd.S (Kd.slice 3 (Kd.int .i64)) 24 w2 w0.heap.size (fun k_ => (P0_ k_ ∨ w.heap.size ≤ k_)) (.slice (some ⟨g, 0, none⟩) l0.length c0) (xs.set i row') := by
          have h1 := Kd.H_widen HH.out
          have h2 := Kd.H_step (w1 := w2) h1 (fun q hq hn hlt2 => hK2.2 q hlt2 (fun ho => hn (.inl ho)))
          exact Kd.H_back h2 (x' := row') (okp := fun k_ => (oki k_ ∨ wr.heap.size ≤ k_)) ⟨v, rfl, hR2⟩ (fun q hq => hq.elim (fun ho => .inl ho) (fun hn => .inr ⟨.inr (Nat.le_trans hsz hn), hn⟩))
        have hK3 : Kept w w2 (fun k_ => P0_ k_) := Kept.then_ HKr.out hK2 (fun q hq => (HI.out q hq).1)
        have S2 := Aside0.mk hS2
        have K3 := Aside0.mk hK3
        have B2 := Aside0.mk hB2
        clear hS2 hK3 hB2 hR2 hK2 hsz
        go_wp2_with fail
        go_roundg (l0.length - (i + 1))
        (case measure => omega)
        (case rel => exact ⟨i + 1, xs.set i row', m', kk, by omega, Nat.le_refl _, rfl, by go_num, by simpa using hxl, S2, B2, K3, HF2⟩)
      · have q0 : ¬ (i : Int) < (l0.length : Int) := by omega
        have q1 : ¬ ((i : Int) < (xs.length : Int)) := by omega
        have hF := HFr.out
        simp only [laws_markIntSS.l0] at hF
        rw [if_neg q1] at hF
        injection hF with hF
        injection hF with e1 e2
        subst e1
        subst e2
        go_wp2_with fail
        go_ret
        exact ⟨rfl, HS.out, HBr.out, HKr.out⟩

/-! ### laws_heldIntSS: function 27 -/
def laws_heldIntSS.l0 : Nat → List (List Int) → Int → Int → Option (Int)
  | 0, _, _, _ => none
  | k + 1, x0, x1, x5 => if x5 < (x0.length : Int) then (if 0 ≤ x5 then ((laws_heldIntS.f k (rd_L2 x0 x5) x1).bind fun t247 => (if t247 < 0 then (some (-1)) else (laws_heldIntSS.l0 k x0 t247 (wrap64 (x5 + 1))))) else (none)) else (some x1)
def laws_heldIntSS.f (k : Nat) (l0 : List (List Int)) (a1 : Int) : Option (Int) := laws_heldIntSS.l0 k l0 a1 0
theorem laws_heldIntSS.mono_l : ∀ k, (∀ y0 y1 y2, LeO (laws_heldIntSS.l0 k y0 y1 y2) (laws_heldIntSS.l0 (k + 1) y0 y1 y2))
  | 0 => fun _ _ _ r h => by simp [laws_heldIntSS.l0] at h
  | k + 1 => by
    have ih0 := laws_heldIntSS.mono_l k
    · intro y0 y1 y2
      unfold laws_heldIntSS.l0
      repeat' first
      | (with_reducible exact ih0 _ _ _)
      | (with_reducible exact laws_heldIntS.mono _ _ _)
      | (with_reducible exact LeO.refl _)
      | (with_reducible exact LeO.none _)
      | (with_reducible refine LeO.ite ?_ ?_)
      | (with_reducible refine LeO.bind ?_ (fun _ => ?_))
      | exact ih0 _ _ _
      | exact laws_heldIntS.mono _ _ _
      | exact LeO.none _
      | refine LeO.ite ?_ ?_
      | refine LeO.bind ?_ (fun _ => ?_)
theorem laws_heldIntSS.mono : ∀ a0 a1 k, LeO (laws_heldIntSS.f k a0 a1) (laws_heldIntSS.f (k + 1) a0 a1) := by
  intro a0 a1 k
  have ih0 := laws_heldIntSS.mono_l k
  unfold laws_heldIntSS.f
  repeat' first
      | (with_reducible exact ih0 _ _ _)
      | (with_reducible exact laws_heldIntS.mono _ _ _)
      | (with_reducible exact LeO.refl _)
      | (with_reducible exact LeO.none _)
      | (with_reducible refine LeO.ite ?_ ?_)
      | (with_reducible refine LeO.bind ?_ (fun _ => ?_))
      | exact ih0 _ _ _
      | exact laws_heldIntS.mono _ _ _
      | exact LeO.none _
      | refine LeO.ite ?_ ?_
      | refine LeO.bind ?_ (fun _ => ?_)
set_option maxHeartbeats 8000000 in
set_option maxRecDepth 100000 in
theorem laws_heldIntSS.calls (k : Nat) (A0 : Option Addr) (c0 : Nat) (l0 : List (List Int)) (a1 : Int) (r : Int) (w : World) (hr0 : Kd.C (Kd.slice 3 (Kd.int .i64)) w A0 l0.length l0) (hc0 : l0.length ≤ c0) (h : laws_heldIntSS.f k l0 a1 = some r) :
    Calls Try.prog 27 #[.slice A0 l0.length c0, .int .i64 a1] w fun e w' => e = .returned (.int .i64 r) ∧ Drawn0 w w' := by
  have HR0 := Aside0.mk hr0
  have HC0 := Aside0.mk hc0
  clear hr0 hc0
  have H : (laws_heldIntSS.l0 k l0 a1 0) = some r := h
  clear h
  have H' := Aside0.mk H
  clear H
  go_enter Try.func27, Try.ntmps27
  go_wp2
  go_loopg [1, 5] k (fun kq v1 v5 w' => ∃ (x1_1 : Int) (x5_1 : Int), v1 = .int .i64 x1_1 ∧ v5 = .int .i64 x5_1 ∧ Aside0 (laws_heldIntSS.l0 kq l0 x1_1 x5_1 = some r) ∧ Aside0 (kq ≤ k) ∧ Drawn0 w w')
  case atStart => exact ⟨(a1), (0), (by first | rfl | (simp; done) | (simp [*]; done)), (by first | rfl | (simp; done) | (simp [*]; done)), H', ⟨Nat.le_refl _⟩, by repeat (first | exact Drawn0.refl _ | apply Drawn0.step)⟩
  case round =>
    clear H'
    try clear c2
    try clear p2
    obtain ⟨x1_1, x5_1, rfl, rfl, HA, HK1, ⟨m1, rfl⟩⟩ := hrel
    cases gk with
    | zero => exact absurd HA.out (by simp [laws_heldIntSS.l0])
    | succ k1 =>
      have H := HA.out
      clear HA
      simp only [laws_heldIntSS.l0] at H
      by_cases c3 : x5_1 < (l0.length : Int)
      · rw [if_pos c3] at H
        have c3b0 : decide (x5_1 < (l0.length : Int)) = true := decide_eq_true c3
        clear c3
        by_cases c4 : 0 ≤ x5_1
        · rw [if_pos c4] at H
          have c4b0 : decide (0 ≤ x5_1) = true := decide_eq_true c4
          clear c4
          replace H := Option.bind_eq_some_iff.mp H
          obtain ⟨t247, A50, H⟩ := H
          replace H : (if t247 < 0 then (some (-1)) else (laws_heldIntSS.l0 k1 l0 t247 (wrap64 (x5_1 + 1)))) = some r := H
          have A5 := Aside0.mk A50
          clear A50
          by_cases c6 : t247 < 0
          · rw [if_pos c6] at H
            have c6b0 : decide (t247 < 0) = true := decide_eq_true c6
            clear c6
            obtain rfl := Option.some.inj H
            have p246 : 0 ≤ (x5_1 : Int) := of_decide_eq_true (by first | (with_reducible assumption) | assumption)
            have q246 : x5_1 < (l0.length : Int) := of_decide_eq_true (by first | (with_reducible assumption) | assumption)
            obtain ⟨ad246, A246_0, c246_0, e246, hx246_0, hl246_0, hi246_0⟩ := at_L2 HR0.out x5_1 p246 q246
            cases e246
            have HR246_0 := Aside0.mk hi246_0
            have HC246_0 := Aside0.mk hl246_0
            clear hi246_0 hl246_0
            replace p246 := eq_true p246
            replace q246 := eq_true q246
            go_wp2_with (first | ((with_reducible refine gate_callee (f := 18) rfl ?_); refine goesL_ (some 17) rfl rfl Try.func18 (by kernel_rfl) rfl #[.slice A246_0 (rd_L2 l0 x5_1).length c246_0, .int .i64 x1_1] rfl (by (try simp only [List.map_toArray, List.map_cons, List.map_nil]); first | done | rfl | (simp only [List.length_drop, List.length_take]; rfl)) ?_; (with_reducible refine (laws_heldIntS.calls k1 _ _ (rd_L2 l0 x5_1) x1_1 t247 _ ?side1 ?side2 A5.out).mono ?_); (case side1 => repeat (first | exact HR246_0.out | (with_reducible refine Kd.C_alloc ?_ _) | (with_reducible refine Kd.C_drewN ?_ _) | (with_reducible refine Kd.C_drew ?_))); (case side2 => exact HC246_0.out); rintro e w' ⟨rfl, ⟨nd, rfl⟩⟩; refine ⟨_, rfl, ?_⟩))
            go_ret
            exact ⟨by first | rfl | (simp; done) | (simp [*]; done), by repeat (first | exact Drawn0.refl _ | apply Drawn0.step)⟩
          · rw [if_neg c6] at H
            have c6b0 : decide (t247 < 0) = false := decide_eq_false c6
            clear c6
            have H' := Aside0.mk H
            clear H
            have p246 : 0 ≤ (x5_1 : Int) := of_decide_eq_true (by first | (with_reducible assumption) | assumption)
            have q246 : x5_1 < (l0.length : Int) := of_decide_eq_true (by first | (with_reducible assumption) | assumption)
            obtain ⟨ad246, A246_0, c246_0, e246, hx246_0, hl246_0, hi246_0⟩ := at_L2 HR0.out x5_1 p246 q246
            cases e246
            have HR246_0 := Aside0.mk hi246_0
            have HC246_0 := Aside0.mk hl246_0
            clear hi246_0 hl246_0
            replace p246 := eq_true p246
            replace q246 := eq_true q246
            go_wp2_with (first | ((with_reducible refine gate_callee (f := 18) rfl ?_); refine goesL_ (some 17) rfl rfl Try.func18 (by kernel_rfl) rfl #[.slice A246_0 (rd_L2 l0 x5_1).length c246_0, .int .i64 x1_1] rfl (by (try simp only [List.map_toArray, List.map_cons, List.map_nil]); first | done | rfl | (simp only [List.length_drop, List.length_take]; rfl)) ?_; (with_reducible refine (laws_heldIntS.calls k1 _ _ (rd_L2 l0 x5_1) x1_1 t247 _ ?side1 ?side2 A5.out).mono ?_); (case side1 => repeat (first | exact HR246_0.out | (with_reducible refine Kd.C_alloc ?_ _) | (with_reducible refine Kd.C_drewN ?_ _) | (with_reducible refine Kd.C_drew ?_))); (case side2 => exact HC246_0.out); rintro e w' ⟨rfl, ⟨nd, rfl⟩⟩; refine ⟨_, rfl, ?_⟩))
            go_roundg k1
            case measure => have := HK1.out; omega
            case rel => exact ⟨(t247), (wrap64 (x5_1 + 1)), (by first | rfl | (simp; done) | (simp [*]; done)), (by first | rfl | (simp; done) | (simp [*]; done)), H', ⟨by have := HK1.out; omega⟩, by repeat (first | exact Drawn0.refl _ | apply Drawn0.step)⟩
        · rw [if_neg c4] at H
          exact absurd H (by simp)
      · rw [if_neg c3] at H
        have c3b0 : decide (x5_1 < (l0.length : Int)) = false := decide_eq_false c3
        clear c3
        obtain rfl := Option.some.inj H
        go_wp2
        go_ret
        exact ⟨by first | rfl | (simp; done) | (simp [*]; done), by repeat (first | exact Drawn0.refl _ | apply Drawn0.step)⟩

/-! ### laws_FnExactStringsOf: function 6 (given by hand) -/
def laws_FnExactStringsOf.f (k : Nat) (a0_0 a0_1 : Int) : Option Bool :=
  (laws_toStar.f a0_0 a0_1).bind fun st => (spec_StringsOf.f k st.1 st.2).bind fun bw => (impl_StringsOf.f k st.1 st.2).bind fun bg =>
    (laws_eqIntSS.f k bg.1 bw.1).bind fun e1 => (laws_markIntSS.f k bg.1 1).bind fun mm => (laws_heldIntSS.f k mm.2 1).bind fun hq =>
      if e1 = true ∧ bg.2 = bw.2 ∧ 0 ≤ hq ∧ hq = mm.1 then some true else none
set_option maxHeartbeats 1000000 in
set_option maxRecDepth 100000 in
theorem stringsOf_law_walk (a0_0 a0_1 s1 s2 : Int) (lw lg : List (List Int)) (b : Bool) (mm : Int) (mml : List (List Int)) (k : Nat) (w : World) (hmm : ¬ mm < 0)
    (HT : Aside0 (laws_toStar.f a0_0 a0_1 = some (s1, s2)))
    (HSP : Aside0 (spec_StringsOf.f k s1 s2 = some (lw, b))) (HIM : Aside0 (impl_StringsOf.f k s1 s2 = some (lg, b))) (HEQ : Aside0 (laws_eqIntSS.f k lg lw = some true))
    (HMM : Aside0 (laws_markIntSS.f k lg 1 = some (mm, mml))) (HHE : Aside0 (laws_heldIntSS.f k mml 1 = some mm)) :
    Calls Try.prog 6 #[.agg #[.int .i64 a0_0, .int .i64 a0_1]] w fun e w' => e = .returned (.bool true) ∧ Below w.heap.size w w' := by
  go_enter Try.func6, Try.ntmps6
  -- toStar
  go_wp2_with fail
  refine (laws_toStar.calls a0_0 a0_1 s1 s2 _ HT.out).mono ?_
  rintro e w1 ⟨rfl, hd1⟩
  have B1 := Aside0.mk hd1
  clear hd1
  -- spec
  go_wp2_with fail
  refine (spec_StringsOf.calls k s1 s2 lw b _ HSP.out).mono ?_
  rintro e w3 ⟨v0, rfl, hW, b3⟩
  have B3 := Aside0.mk (below_step B1.out b3)
  have HW := Aside0.mk hW
  clear hW b3
  -- toStar
  have hc0 : w3.cell? ⟨w.heap.size, 0, none⟩ = some (.int .i64 a0_0) := (B3.out.cell (p := ⟨w.heap.size, 0, none⟩) (by simp)).trans (by simp)
  have hc1 : w3.cell? ⟨w.heap.size, 1, none⟩ = some (.int .i64 a0_1) := (B3.out.cell (p := ⟨w.heap.size, 1, none⟩) (by simp)).trans (by simp)
  go_wp2_with fail
  clear hc0 hc1
  refine (laws_toStar.calls a0_0 a0_1 s1 s2 _ HT.out).mono ?_
  rintro e w4 ⟨rfl, hd4⟩
  have D4 := Aside0.mk hd4
  have B4 := Aside0.mk (below_step B3.out hd4)
  clear hd4
  -- impl
  go_wp2_with fail
  refine (impl_StringsOf.calls k s1 s2 lg b _ HIM.out).mono ?_
  rintro e w5 ⟨vg, rfl, hG, b5⟩
  have D5 := Aside0.mk (below_step D4.out b5)
  have B5 := Aside0.mk (below_step B4.out b5)
  obtain ⟨Ag, cg, rfl, hlg, hCg⟩ := Kd.S_reads hG
  obtain ⟨Aw, cw, rfl, hlw, _⟩ := Kd.S_reads HW.out
  have HG := Aside0.mk hG
  have CEQ := Aside0.mk (fun W (h1 : Kd.C (Kd.slice 3 (Kd.int .i64)) W Ag lg.length lg) (h2 : Kd.C (Kd.slice 3 (Kd.int .i64)) W Aw lw.length lw) => laws_eqIntSS.calls k Ag cg lg Aw cw lw true W h1 hlg h2 hlw HEQ.out)
  have readW := Aside0.mk (fun W (hb : Below w3.heap.size w3 W) => (Kd.S_reads' (Kd.S_below HW.out hb)).2.2)
  clear hG hCg b5
  -- eqIntSS
  go_wp2_with fail
  refine (CEQ.out _ (Kd.S_reads' HG.out).2.2 (readW.out _ D5.out)).mono ?_
  rintro e w6 ⟨rfl, hd6⟩
  have D6 := Aside0.mk (below_step D5.out hd6.below)
  have B6 := Aside0.mk (below_step B5.out hd6.below)
  have HG6 := Aside0.mk (Kd.S_lower (Kd.S_below HG.out hd6.below) (show w3.heap.size ≤ w4.heap.size from D4.out.size))
  have HG7 := Aside0.mk (show Kd.S (Kd.slice 3 (Kd.int .i64)) 24 w6 w3.heap.size (fun k_ => w3.heap.size ≤ k_) (.slice Ag lg.length cg) lg from Kd.S_mono (Kd.S_bound HG6.out) (fun q hq => hq.2.1))
  have CMM := Aside0.mk (laws_markIntSS.calls k (fun k_ => w3.heap.size ≤ k_) (.slice Ag lg.length cg) lg 1 mm mml w3 w6 D6.out HG7.out HMM.out)
  clear hd6
  -- markIntSS
  go_wp2_with fail
  refine CMM.out.mono ?_
  rintro e w11 ⟨rfl, hM, b11, _⟩
  have D11 := Aside0.mk b11
  have B11 := Aside0.mk (below_step B3.out b11)
  have HM := Aside0.mk hM
  obtain ⟨hml1, hml2, hCm⟩ := Kd.S_reads' hM
  have hle : mml.length ≤ cg := by rw [← hml1]; exact hml2
  have hCHE : ∀ W, Kd.C (Kd.slice 3 (Kd.int .i64)) W Ag mml.length mml → Calls Try.prog 27 #[.slice Ag lg.length cg, .int .i64 1] W (fun e w' => e = .returned (.int .i64 mm) ∧ Drawn0 W w') := by
    intro W h1
    rw [hml1]
    exact laws_heldIntSS.calls k Ag cg mml 1 mm W h1 hle HHE.out
  have CHE := Aside0.mk hCHE
  clear hCHE hle hml1 hml2 hM hCm b11
  -- heldIntSS
  go_wp2_with fail
  refine (CHE.out _ (Kd.S_reads' HM.out).2.2).mono ?_
  rintro e w12 ⟨rfl, hd12⟩
  have D12 := Aside0.mk (below_step D11.out hd12.below)
  have B12 := Aside0.mk (below_step B11.out hd12.below)
  have E12 := Aside0.mk hd12.below
  clear hd12
  -- toStar
  have hc0 : w12.cell? ⟨w.heap.size, 0, none⟩ = some (.int .i64 a0_0) := (B12.out.cell (p := ⟨w.heap.size, 0, none⟩) (by simp)).trans (by simp)
  have hc1 : w12.cell? ⟨w.heap.size, 1, none⟩ = some (.int .i64 a0_1) := (B12.out.cell (p := ⟨w.heap.size, 1, none⟩) (by simp)).trans (by simp)
  go_wp2_with fail
  clear hc0 hc1
  refine (laws_toStar.calls a0_0 a0_1 s1 s2 _ HT.out).mono ?_
  rintro e w13 ⟨rfl, hd13⟩
  have D13 := Aside0.mk (below_step D12.out hd13)
  have B13 := Aside0.mk (below_step B12.out hd13)
  have E13 := Aside0.mk (below_step E12.out hd13)
  clear hd13
  -- impl again
  go_wp2_with fail
  refine (impl_StringsOf.calls k s1 s2 lg b _ HIM.out).mono ?_
  rintro e w14 ⟨vh, rfl, hH, b14⟩
  have D14 := Aside0.mk (below_step D13.out b14)
  have B14 := Aside0.mk (below_step B13.out b14)
  have E14 := Aside0.mk (below_step E13.out b14)
  obtain ⟨Ah, ch, rfl, hlh, hCh⟩ := Kd.S_reads hH
  have CEQ2 := Aside0.mk (fun W (hW : W = w14) (h2 : Kd.C (Kd.slice 3 (Kd.int .i64)) W Aw lw.length lw) => laws_eqIntSS.calls k Ah ch lg Aw cw lw true W (hW ▸ hCh) hlh h2 hlw HEQ.out)
  clear hH hCh b14 CEQ
  go_wp2_with fail
  refine (CEQ2.out _ rfl (readW.out _ D14.out)).mono ?_
  rintro e w15 ⟨rfl, hd15⟩
  have B15 := Aside0.mk (below_step B14.out hd15.below)
  have E15 := Aside0.mk (below_step E14.out hd15.below)
  clear hd15
  go_wp2_with fail
  refine (CHE.out _ (Kd.S_reads' (Kd.S_below HM.out E15.out)).2.2).mono ?_
  rintro e w16 ⟨rfl, hd16⟩
  have B16 := Aside0.mk (below_step B15.out hd16.below)
  clear hd16
  go_wp2_with fail
  go_ret
  exact ⟨rfl, below_step (below_alloc (Below.refl _ _) _) B16.out⟩
theorem laws_FnExactStringsOf.calls (k : Nat) (a0_0 a0_1 : Int) (r : Bool) (w : World) (h : laws_FnExactStringsOf.f k a0_0 a0_1 = some r) :
    Calls Try.prog 6 #[.agg #[.int .i64 a0_0, .int .i64 a0_1]] w fun e w' => e = .returned (.bool r) ∧ Below w.heap.size w w' := by
  unfold laws_FnExactStringsOf.f at h
  obtain ⟨⟨s1, s2⟩, ht, h2⟩ := Option.bind_eq_some_iff.mp h
  obtain ⟨⟨lw, bw⟩, hsp, h3⟩ := Option.bind_eq_some_iff.mp h2
  obtain ⟨⟨lg, bg⟩, him, h4⟩ := Option.bind_eq_some_iff.mp h3
  obtain ⟨e1, heq, h5⟩ := Option.bind_eq_some_iff.mp h4
  obtain ⟨⟨mm, mml⟩, hmm, h8⟩ := Option.bind_eq_some_iff.mp h5
  obtain ⟨hq, hhe, h9⟩ := Option.bind_eq_some_iff.mp h8
  clear h h2 h3 h4 h5 h8
  split at h9
  · rename_i hc
    obtain ⟨q1, q2, q5, q6⟩ := hc
    simp only at q1 q2 q5 q6
    subst q1; subst q2; subst q6
    obtain rfl := Option.some.inj h9
    exact stringsOf_law_walk a0_0 a0_1 s1 s2 lw lg bg hq mml k w (by omega) ⟨ht⟩ ⟨hsp⟩ ⟨him⟩ ⟨heq⟩ ⟨hmm⟩ ⟨hhe⟩
  · cases h9

/-! ### spec_IsStar: function 29 -/
def spec_IsStar.f (a0_0 : Int) (a0_1 : Int) : Option (Bool) := (spec_srGood.f a0_0 a0_1).bind fun t249 => (some t249)
set_option maxHeartbeats 8000000 in
set_option maxRecDepth 100000 in
theorem spec_IsStar.calls (a0_0 : Int) (a0_1 : Int) (r : Bool) (w : World) (h : spec_IsStar.f a0_0 a0_1 = some r) :
    Calls Try.prog 29 #[.agg #[.int .i64 a0_0, .int .i64 a0_1]] w fun e w' => e = .returned (.bool r) ∧ Below w.heap.size w w' := by
  have hu27 := Try.underlying27
  have HB := Aside0.mk (Below.refl w.heap.size w)
  have H : ((spec_srGood.f a0_0 a0_1).bind fun t249 => (some t249)) = some r := h
  clear h
  replace H := Option.bind_eq_some_iff.mp H
  obtain ⟨t249, A20, H⟩ := H
  replace H : (some t249) = some r := H
  have A2 := Aside0.mk A20
  clear A20
  obtain rfl := Option.some.inj H
  go_enter Try.func29, Try.ntmps29
  go_wp2_with (first | ((with_reducible refine gate_dst (N := 1) rfl ?_); refine box_event ?hg (N := 1) ?hd (cs := #[.int .i64 a0_0, .int .i64 a0_1]) (t := 27) ?hr ?_; (case hd => rfl); (case hg => rfl); (case hr => first | (go_simp; done) | (go_simp; rfl)); intro gb248 hg w3 hbox hb; have n0_ := Aside0.mk (below_step (by repeat (first | (with_reducible first | exact HB.out | apply below_alloc | apply pw_below_drewN | apply below_drew1) | exact HB.out)) hb); have n1_ := Aside0.mk (hbox); have n2_ := Aside0.mk ((by rw [hg]; exact (below_size (by repeat (first | (with_reducible first | exact HB.out | apply below_alloc | apply pw_below_drewN | apply below_drew1) | exact HB.out))) : w.heap.size ≤ gb248)); have n3_ := Aside0.mk ((by rw [hg]; exact (below_size (by repeat (first | (with_reducible first | exact HB.out | apply below_alloc | apply pw_below_drewN | apply below_drew1) | exact HB.out))) : w.heap.size ≤ gb248)); clear HB; have HB := n0_; have BK248 := n1_; have GW248 := n2_; have GE248 := n3_; clear n0_ n1_ n2_ n3_; clear hb hbox hg; have hcz4_0 : w3.cell? ⟨gb248, 0, none⟩ = some (.int .i64 a0_0) := (blk_cell BK248.out 0).trans rfl; have hcz4_1 : w3.cell? ⟨gb248, 1, none⟩ = some (.int .i64 a0_1) := (blk_cell BK248.out 1).trans rfl; have hfz4_0 := blk_frozen BK248.out 0; have hfz4_1 := blk_frozen BK248.out 1) | ((with_reducible refine gate_callee (f := 56) rfl ?_); refine goesL_ (some 4) rfl rfl Try.func56 (by kernel_rfl) rfl #[.agg #[.int .i64 a0_0, .int .i64 a0_1]] rfl (by (try simp only [List.map_toArray, List.map_cons, List.map_nil]); first | done | rfl | (simp only [List.length_drop, List.length_take]; rfl)) ?_; (with_reducible refine (spec_srGood.calls a0_0 a0_1 t249 _ A2.out).mono ?_); rintro e w5 ⟨rfl, hb⟩; refine ⟨_, rfl, ?_⟩; have n0_ := Aside0.mk (blk_below (g := gb248) (o := .cells #[.int .i64 a0_0, .int .i64 a0_1] 27 (0, 0)) (by (with_reducible repeat (first | refine blk_drewN ?_ _ | refine blk_drew ?_ | refine blk_alloc ?_ _)); exact BK248.out) hb); have n1_ := Aside0.mk (below_step (by repeat (first | (with_reducible first | exact HB.out | apply below_alloc | apply pw_below_drewN | apply below_drew1 | refine below_set ?_ GE248.out) | exact HB.out)) hb); clear BK248; clear HB; have BK248 := n0_; have HB := n1_; clear n0_ n1_; (try clear hb); (try clear hb2); (try clear hk); (try clear hi)))
  go_ret
  exact ⟨by first | rfl | (simp [errW_none, errW_some] <;> rfl) | (simp [*, errW_none, errW_some] <;> rfl), by repeat (first | (with_reducible first | exact HB.out | apply below_alloc | apply pw_below_drewN | apply below_drew1 | refine below_set ?_ GE248.out) | exact HB.out)⟩

/-! ### impl_CountStrings: function 30 -/
def impl_CountStrings.f (k : Nat) (a0_0 : Int) (a0_1 : Int) : Option (Int × Bool) := (impl_IsStar.f a0_0 a0_1).bind fun t251 => (if t251 = true then ((impl_Star_strings.f k a0_0 a0_1).bind fun t252 => (some (t252, true))) else (some (0, false)))
theorem impl_CountStrings.mono : ∀ a0 a1 k, LeO (impl_CountStrings.f k a0 a1) (impl_CountStrings.f (k + 1) a0 a1) := by
  intro a0 a1 k
  unfold impl_CountStrings.f
  repeat' first
      | (with_reducible exact impl_Star_strings.mono _ _ _)
      | (with_reducible exact LeO.refl _)
      | (with_reducible exact LeO.none _)
      | (with_reducible refine LeO.ite ?_ ?_)
      | (with_reducible refine LeO.bind ?_ (fun _ => ?_))
      | exact impl_Star_strings.mono _ _ _
      | exact LeO.none _
      | refine LeO.ite ?_ ?_
      | refine LeO.bind ?_ (fun _ => ?_)
set_option maxHeartbeats 8000000 in
set_option maxRecDepth 100000 in
theorem impl_CountStrings.calls (k : Nat) (a0_0 : Int) (a0_1 : Int) (r1 : Int) (r2 : Bool) (w : World) (h : impl_CountStrings.f k a0_0 a0_1 = some (r1, r2)) :
    Calls Try.prog 30 #[.agg #[.int .i64 a0_0, .int .i64 a0_1]] w fun e w' => e = .returned (.tuple #[.int .i64 r1, .bool r2]) ∧ Below w.heap.size w w' := by
  have hu27 := Try.underlying27
  have HB := Aside0.mk (Below.refl w.heap.size w)
  have H : ((impl_IsStar.f a0_0 a0_1).bind fun t251 => (if t251 = true then ((impl_Star_strings.f k a0_0 a0_1).bind fun t252 => (some (t252, true))) else (some (0, false)))) = some (r1, r2) := h
  clear h
  replace H := Option.bind_eq_some_iff.mp H
  obtain ⟨t251, A20, H⟩ := H
  replace H : (if t251 = true then ((impl_Star_strings.f k a0_0 a0_1).bind fun t252 => (some (t252, true))) else (some (0, false))) = some (r1, r2) := H
  have A2 := Aside0.mk A20
  clear A20
  by_cases c3 : t251 = true
  · subst c3
    have H1 : ((impl_Star_strings.f k a0_0 a0_1).bind fun t252 => (some (t252, true))) = some (r1, r2) := by rw [if_pos rfl] at H; exact H
    clear H
    have H := H1
    clear H1
    replace H := Option.bind_eq_some_iff.mp H
    obtain ⟨t252, A40, H⟩ := H
    replace H : (some (t252, true)) = some (r1, r2) := H
    have A4 := Aside0.mk A40
    clear A40
    simp only [Option.some.injEq, Prod.mk.injEq] at H
    obtain ⟨rfl, rfl⟩ := H
    go_enter Try.func30, Try.ntmps30
    go_wp2_with (first | ((with_reducible refine gate_dst (N := 1) rfl ?_); refine box_event ?hg (N := 1) ?hd (cs := #[.int .i64 a0_0, .int .i64 a0_1]) (t := 27) ?hr ?_; (case hd => rfl); (case hg => rfl); (case hr => first | (go_simp; done) | (go_simp; rfl)); intro gb250 hg w5 hbox hb; have n0_ := Aside0.mk (below_step (by repeat (first | (with_reducible first | exact HB.out | apply below_alloc | apply pw_below_drewN | apply below_drew1) | exact HB.out)) hb); have n1_ := Aside0.mk (hbox); have n2_ := Aside0.mk ((by rw [hg]; exact (below_size (by repeat (first | (with_reducible first | exact HB.out | apply below_alloc | apply pw_below_drewN | apply below_drew1) | exact HB.out))) : w.heap.size ≤ gb250)); have n3_ := Aside0.mk ((by rw [hg]; exact (below_size (by repeat (first | (with_reducible first | exact HB.out | apply below_alloc | apply pw_below_drewN | apply below_drew1) | exact HB.out))) : w.heap.size ≤ gb250)); clear HB; have HB := n0_; have BK250 := n1_; have GW250 := n2_; have GE250 := n3_; clear n0_ n1_ n2_ n3_; clear hb hbox hg; have hcz6_0 : w5.cell? ⟨gb250, 0, none⟩ = some (.int .i64 a0_0) := (blk_cell BK250.out 0).trans rfl; have hcz6_1 : w5.cell? ⟨gb250, 1, none⟩ = some (.int .i64 a0_1) := (blk_cell BK250.out 1).trans rfl; have hfz6_0 := blk_frozen BK250.out 0; have hfz6_1 := blk_frozen BK250.out 1) | ((with_reducible refine gate_callee (f := 28) rfl ?_); refine goesL_ (some 5) rfl rfl Try.func28 (by kernel_rfl) rfl #[.agg #[.int .i64 a0_0, .int .i64 a0_1]] rfl (by (try simp only [List.map_toArray, List.map_cons, List.map_nil]); first | done | rfl | (simp only [List.length_drop, List.length_take]; rfl)) ?_; (with_reducible refine (impl_IsStar.calls a0_0 a0_1 true _ A2.out).mono ?_); rintro e w7 ⟨rfl, hb⟩; refine ⟨_, rfl, ?_⟩; have n0_ := Aside0.mk (blk_below (g := gb250) (o := .cells #[.int .i64 a0_0, .int .i64 a0_1] 27 (0, 0)) (by (with_reducible repeat (first | refine blk_drewN ?_ _ | refine blk_drew ?_ | refine blk_alloc ?_ _)); exact BK250.out) hb); have n1_ := Aside0.mk (below_step (by repeat (first | (with_reducible first | exact HB.out | apply below_alloc | apply pw_below_drewN | apply below_drew1 | refine below_set ?_ GE250.out) | exact HB.out)) hb); clear BK250; clear HB; have BK250 := n0_; have HB := n1_; clear n0_ n1_; (try clear hb); (try clear hb2); (try clear hk); (try clear hi); have hcz8_0 : w7.cell? ⟨gb250, 0, none⟩ = some (.int .i64 a0_0) := (blk_cell BK250.out 0).trans rfl; have hcz8_1 : w7.cell? ⟨gb250, 1, none⟩ = some (.int .i64 a0_1) := (blk_cell BK250.out 1).trans rfl; have hfz8_0 := blk_frozen BK250.out 0; have hfz8_1 := blk_frozen BK250.out 1) | ((with_reducible refine gate_callee (f := 57) rfl ?_); refine goesL_ (some 8) rfl rfl Try.func57 (by kernel_rfl) rfl #[.agg #[.int .i64 a0_0, .int .i64 a0_1]] rfl (by (try simp only [List.map_toArray, List.map_cons, List.map_nil]); first | done | rfl | (simp only [List.length_drop, List.length_take]; rfl)) ?_; (with_reducible refine (impl_Star_strings.calls k a0_0 a0_1 t252 _ A4.out).mono ?_); rintro e w9 ⟨rfl, hb⟩; refine ⟨_, rfl, ?_⟩; have n0_ := Aside0.mk (blk_below (g := gb250) (o := .cells #[.int .i64 a0_0, .int .i64 a0_1] 27 (0, 0)) (by (with_reducible repeat (first | refine blk_drewN ?_ _ | refine blk_drew ?_ | refine blk_alloc ?_ _)); exact BK250.out) hb); have n1_ := Aside0.mk (below_step (by repeat (first | (with_reducible first | exact HB.out | apply below_alloc | apply pw_below_drewN | apply below_drew1 | refine below_set ?_ GE250.out) | exact HB.out)) hb); clear BK250; clear HB; have BK250 := n0_; have HB := n1_; clear n0_ n1_; (try clear hb); (try clear hb2); (try clear hk); (try clear hi)))
    go_ret2
    exact ⟨by first | rfl | (simp [errW_none, errW_some] <;> rfl) | (simp [*, errW_none, errW_some] <;> rfl), by repeat (first | (with_reducible first | exact HB.out | apply below_alloc | apply pw_below_drewN | apply below_drew1 | refine below_set ?_ GE250.out) | exact HB.out)⟩
  · replace c3 := Bool.eq_false_iff.mpr c3
    subst c3
    have H1 : (some (0, false)) = some (r1, r2) := by rw [if_neg (show ¬ (false = true) by decide)] at H; exact H
    clear H
    have H := H1
    clear H1
    simp only [Option.some.injEq, Prod.mk.injEq] at H
    obtain ⟨rfl, rfl⟩ := H
    go_enter Try.func30, Try.ntmps30
    go_wp2_with (first | ((with_reducible refine gate_dst (N := 1) rfl ?_); refine box_event ?hg (N := 1) ?hd (cs := #[.int .i64 a0_0, .int .i64 a0_1]) (t := 27) ?hr ?_; (case hd => rfl); (case hg => rfl); (case hr => first | (go_simp; done) | (go_simp; rfl)); intro gb250 hg w10 hbox hb; have n0_ := Aside0.mk (below_step (by repeat (first | (with_reducible first | exact HB.out | apply below_alloc | apply pw_below_drewN | apply below_drew1) | exact HB.out)) hb); have n1_ := Aside0.mk (hbox); have n2_ := Aside0.mk ((by rw [hg]; exact (below_size (by repeat (first | (with_reducible first | exact HB.out | apply below_alloc | apply pw_below_drewN | apply below_drew1) | exact HB.out))) : w.heap.size ≤ gb250)); have n3_ := Aside0.mk ((by rw [hg]; exact (below_size (by repeat (first | (with_reducible first | exact HB.out | apply below_alloc | apply pw_below_drewN | apply below_drew1) | exact HB.out))) : w.heap.size ≤ gb250)); clear HB; have HB := n0_; have BK250 := n1_; have GW250 := n2_; have GE250 := n3_; clear n0_ n1_ n2_ n3_; clear hb hbox hg; have hcz11_0 : w10.cell? ⟨gb250, 0, none⟩ = some (.int .i64 a0_0) := (blk_cell BK250.out 0).trans rfl; have hcz11_1 : w10.cell? ⟨gb250, 1, none⟩ = some (.int .i64 a0_1) := (blk_cell BK250.out 1).trans rfl; have hfz11_0 := blk_frozen BK250.out 0; have hfz11_1 := blk_frozen BK250.out 1) | ((with_reducible refine gate_callee (f := 28) rfl ?_); refine goesL_ (some 5) rfl rfl Try.func28 (by kernel_rfl) rfl #[.agg #[.int .i64 a0_0, .int .i64 a0_1]] rfl (by (try simp only [List.map_toArray, List.map_cons, List.map_nil]); first | done | rfl | (simp only [List.length_drop, List.length_take]; rfl)) ?_; (with_reducible refine (impl_IsStar.calls a0_0 a0_1 false _ A2.out).mono ?_); rintro e w12 ⟨rfl, hb⟩; refine ⟨_, rfl, ?_⟩; have n0_ := Aside0.mk (blk_below (g := gb250) (o := .cells #[.int .i64 a0_0, .int .i64 a0_1] 27 (0, 0)) (by (with_reducible repeat (first | refine blk_drewN ?_ _ | refine blk_drew ?_ | refine blk_alloc ?_ _)); exact BK250.out) hb); have n1_ := Aside0.mk (below_step (by repeat (first | (with_reducible first | exact HB.out | apply below_alloc | apply pw_below_drewN | apply below_drew1 | refine below_set ?_ GE250.out) | exact HB.out)) hb); clear BK250; clear HB; have BK250 := n0_; have HB := n1_; clear n0_ n1_; (try clear hb); (try clear hb2); (try clear hk); (try clear hi)))
    go_ret2
    exact ⟨by first | rfl | (simp [errW_none, errW_some] <;> rfl) | (simp [*, errW_none, errW_some] <;> rfl), by repeat (first | (with_reducible first | exact HB.out | apply below_alloc | apply pw_below_drewN | apply below_drew1 | refine below_set ?_ GE250.out) | exact HB.out)⟩

end Go.Proofs.Ytknpnhgedcggkaa.X
