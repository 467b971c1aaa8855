-- Written by a program of this work (wip/tools/xadd.py). Not trusted: it is checked when it is built.
import Derived.Test.YtkiookioejckbaaXx2
import Derived.Test.YtkiookioejckbaaXx4
import Derived.Test.YtkiookioejckbaaXx7
import Derived.Test.YtkiookioejckbaaXx15
import Derived.Test.YtkiookioejckbaaXx22
import Derived.Test.YtkiookioejckbaaXx23
import Derived.Test.YtkiookioejckbaaXx24
namespace Go.Proofs.Ytkiookioejckbaa.X
open Go.RowKit Go.Proofs.YtkiookioejckbaaW.PrintWords Go.Proofs.YtkiookioejckbaaW.PrintLast Go.Proofs.YtkiookioejckbaaW.PrintMore
attribute [local go_sem] max2_int min2_int max_two min_two max_three min_three max_four min_four   -- for this text's walks alone
set_option linter.unusedVariables false
set_option linter.unusedSimpArgs false

/-! ### laws_FnExactCrossingPairs: function 10 (given by hand) -/
def laws_FnExactCrossingPairs.f (k : Nat) (a0 : Int) (l1 : List S50) : Option Bool :=
  (laws_szChordS.f l1 1048576).bind fun t => if t < 0 then some true else (laws_toChordS.f k l1).bind fun tc => (spec_CrossingPairs.f k a0 tc).bind fun bw => (impl_CrossingPairs.f k a0 tc).bind fun bg =>
    (laws_eqIntSS.f k bg.1 bw.1).bind fun e1 => (laws_eqChordS.f k tc tc).bind fun e2 => (laws_markChordS.f k tc 1).bind fun mk => (laws_markIntSS.f k bg.1 1).bind fun mm => (laws_heldIntSS.f k mm.2 1).bind fun hq =>
      if e1 = true ∧ bg.2 = bw.2 ∧ e2 = true ∧ 0 ≤ mk.1 ∧ 0 ≤ hq ∧ hq = mm.1 then some true else none
theorem drawn_below {w w' : World} (h : Drawn0 w w') : Below w.heap.size w w' := h.below
set_option maxHeartbeats 1000000 in
set_option maxRecDepth 100000 in
theorem crossingPairs_small (a0 : Int) (A1 : Option Addr) (c1 : Nat) (n : Nat) (t : Int) (w : World) (ht : t < 0)
    (HSZ : Aside0 (∀ W, Below w.heap.size w W → Calls Try.prog 15 #[.slice A1 n c1, .int .i64 1048576] W fun e w' => e = .returned (.int .i64 t) ∧ Drawn0 W w')) :
    Calls Try.prog 10 #[.int .i64 a0, .slice A1 n c1] w fun e w' => e = .returned (.bool true) ∧ Below w.heap.size w w' := by
  go_enter Try.func10, Try.ntmps10
  go_wp2_with fail
  refine (HSZ.out _ (Below.refl _ _)).mono ?_
  rintro e w1 ⟨rfl, hd⟩
  have HD := Aside0.mk hd.below
  clear hd
  go_wp2_with fail
  go_ret
  exact ⟨rfl, HD.out⟩
set_option maxHeartbeats 2000000 in
set_option maxRecDepth 100000 in
theorem crossingPairs_walk (a0 : Int) (A1 : Option Addr) (c1 : Nat) (n : Nat) (t : Int) (tc : List S52) (lw lg : List (List Int)) (b : Bool) (mk : Int) (mkl : List S52) (mm : Int) (mml : List (List Int)) (k : Nat) (w : World) (ht : ¬ t < 0) (hmk : ¬ mk < 0) (hmm : ¬ mm < 0)
    (HSZ : Aside0 (∀ W, Below w.heap.size w W → Calls Try.prog 15 #[.slice A1 n c1, .int .i64 1048576] W fun e w' => e = .returned (.int .i64 t) ∧ Drawn0 W w'))
    (HT : Aside0 (∀ W, Below w.heap.size w W → Calls Try.prog 17 #[.slice A1 n c1] W fun e w' => ∃ v0_ : Value, e = .returned (v0_) ∧ Kd.R k52 52 w' W.heap.size (fun _ => True) v0_ tc ∧ Below W.heap.size W w'))
    (HSP : Aside0 (spec_CrossingPairs.f k a0 tc = some (lw, b))) (HIM : Aside0 (impl_CrossingPairs.f k a0 tc = some (lg, b))) (HEQ : Aside0 (laws_eqIntSS.f k lg lw = some true)) (HEC : Aside0 (laws_eqChordS.f k tc tc = some true))
    (HMK : Aside0 (laws_markChordS.f k tc 1 = some (mk, mkl))) (HMM : Aside0 (laws_markIntSS.f k lg 1 = some (mm, mml))) (HHE : Aside0 (laws_heldIntSS.f k mml 1 = some mm)) :
    Calls Try.prog 10 #[.int .i64 a0, .slice A1 n c1] w fun e w' => e = .returned (.bool true) ∧ Below w.heap.size w w' := by
  go_enter Try.func10, Try.ntmps10
  go_wp2_with fail
  refine (HSZ.out _ (Below.refl _ _)).mono ?_
  rintro e w1 ⟨rfl, hd⟩
  have B1 := Aside0.mk hd.below
  clear hd
  -- toChordS
  go_wp2_with fail
  refine (HT.out _ B1.out).mono ?_
  rintro e w2 ⟨va, rfl, hA, b2⟩
  have B2 := Aside0.mk (below_step B1.out b2)
  obtain ⟨Aa, ca, rfl, hla, hCa⟩ := Kd.R_reads hA
  have CSP := Aside0.mk (fun W (hW : W = w2) => spec_CrossingPairs.calls k a0 Aa ca tc lw b W (hW ▸ hCa) hla HSP.out)
  clear hA hCa hla b2
  -- spec
  go_wp2_with fail
  refine (CSP.out _ rfl).mono ?_
  rintro e w3 ⟨v0, rfl, hW, b3⟩
  have B3 := Aside0.mk (below_step B2.out b3)
  have HW := Aside0.mk hW
  clear hW b3
  -- x1
  go_wp2_with fail
  refine (HT.out _ B3.out).mono ?_
  rintro e w4 ⟨vx, rfl, hX, b4⟩
  have B4 := Aside0.mk (below_step B3.out b4)
  have D4 := Aside0.mk b4
  obtain ⟨Ax, cx, rfl, hlx, hCx⟩ := Kd.R_reads hX
  have HX := Aside0.mk hX
  have CIM := Aside0.mk (fun W (hW : W = w4) => impl_CrossingPairs.calls k a0 Ax cx tc lg b W (hW ▸ hCx) hlx HIM.out)
  clear hX hCx b4
  -- impl
  go_wp2_with fail
  refine (CIM.out _ rfl).mono ?_
  rintro e w5 ⟨vg, rfl, hG, b5⟩
  have D5 := Aside0.mk (below_step D4.out b5)
  have B5 := Aside0.mk (below_step B4.out b5)
  obtain ⟨Ag, cg, rfl, hlg, hCg⟩ := Kd.S_reads hG
  obtain ⟨Aw, cw, rfl, hlw, _⟩ := Kd.S_reads HW.out
  have HG := Aside0.mk hG
  have HX5 := Aside0.mk (Kd.R_below HX.out b5)
  have CEQ := Aside0.mk (fun W (h1 : Kd.C (Kd.slice 3 (Kd.int .i64)) W Ag lg.length lg) (h2 : Kd.C (Kd.slice 3 (Kd.int .i64)) W Aw lw.length lw) => laws_eqIntSS.calls k Ag cg lg Aw cw lw true W h1 hlg h2 hlw HEQ.out)
  have readW := Aside0.mk (fun W (hb : Below w3.heap.size w3 W) => (Kd.S_reads' (Kd.S_below HW.out hb)).2.2)
  clear hG hCg b5
  -- eqIntSS(g0, w0)
  go_wp2_with fail
  refine (CEQ.out _ (Kd.S_reads' HG.out).2.2 (readW.out _ D5.out)).mono ?_
  rintro e w6 ⟨rfl, hd6⟩
  have D6 := Aside0.mk (below_step D5.out hd6.below)
  have B6 := Aside0.mk (below_step B5.out hd6.below)
  have HG6 := Aside0.mk (Kd.S_below HG.out hd6.below)
  have HX6 := Aside0.mk (Kd.R_below HX5.out hd6.below)
  clear hd6
  -- toChordS for the comparison
  go_wp2_with fail
  refine (HT.out _ B6.out).mono ?_
  rintro e w7 ⟨vb, rfl, hBb, b7⟩
  have D7 := Aside0.mk (below_step D6.out b7)
  have B7 := Aside0.mk (below_step B6.out b7)
  have HG7 := Aside0.mk (Kd.S_below HG6.out b7)
  have HX7 := Aside0.mk (Kd.R_below HX6.out b7)
  obtain ⟨Ab, cb, rfl, hlb, hCb⟩ := Kd.R_reads hBb
  have CEC := Aside0.mk (fun W (hW : W = w7) => laws_eqChordS.calls k Ax cx tc Ab cb tc true W (hW ▸ (Kd.R_reads' HX7.out).2.2) hlx (hW ▸ hCb) hlb HEC.out)
  clear hBb hCb b7
  -- eqChordS
  go_wp2_with fail
  refine (CEC.out _ rfl).mono ?_
  rintro e w8 ⟨rfl, b8⟩
  have D8 := Aside0.mk (below_step D7.out b8)
  have B8 := Aside0.mk (below_step B7.out b8)
  have HG8 := Aside0.mk (Kd.S_below HG7.out b8)
  have HX8 := Aside0.mk (Kd.R_below HX7.out b8)
  have CMK := Aside0.mk (laws_markChordS.calls k (fun k_ => some k_ = (Value.slice Ax tc.length cx).ownBlock) (.slice Ax tc.length cx) tc 1 mk mkl w3 w8 D8.out (Kd.R_tight rfl HX8.out) HMK.out)
  clear b8
  -- markChordS
  go_wp2_with fail
  refine CMK.out.mono ?_
  rintro e w9 ⟨rfl, _, b9, k9⟩
  have D9 := Aside0.mk b9
  have hx4 : ∀ q, some q = (Value.slice Ax tc.length cx).ownBlock → q < w4.heap.size := fun q hq => Kd.R_lt HX.out q hq.symm
  have HG9 := Aside0.mk (show Kd.S (Kd.slice 3 (Kd.int .i64)) 37 w9 w4.heap.size (fun k_ => w4.heap.size ≤ k_) (.slice Ag lg.length cg) lg from Kd.S_step (Kd.S_mono (Kd.S_bound HG8.out) (fun q hq => hq.2.1)) (fun q hq hlt => k9.2 q hlt (fun he => by have := hx4 q he; omega)))
  have hsz9 : w.heap.size ≤ w3.heap.size := B3.out.size
  have B9 := Aside0.mk (below_step B3.out b9)
  clear b9 k9 hx4
  -- eqIntSS again
  go_wp2_with fail
  refine (CEQ.out _ (Kd.S_reads' HG9.out).2.2 (readW.out _ D9.out)).mono ?_
  rintro e w10 ⟨rfl, hd10⟩
  have D10 := Aside0.mk (below_step D9.out hd10.below)
  have B10 := Aside0.mk (below_step B9.out hd10.below)
  have HG10 := Aside0.mk (Kd.S_lower (Kd.S_below HG9.out hd10.below) (show w3.heap.size ≤ w4.heap.size from D4.out.size))
  have CMM := Aside0.mk (laws_markIntSS.calls k (fun k_ => w4.heap.size ≤ k_) (.slice Ag lg.length cg) lg 1 mm mml w3 w10 D10.out HG10.out HMM.out)
  clear hd10
  -- markIntSS
  go_wp2_with fail
  refine CMM.out.mono ?_
  rintro e w11 ⟨rfl, hM, b11, _⟩
  have D11 := Aside0.mk b11
  have B11 := Aside0.mk (below_step B3.out b11)
  have HM := Aside0.mk hM
  obtain ⟨hml1, hml2, hCm⟩ := Kd.S_reads' hM
  have hle : mml.length ≤ cg := by rw [← hml1]; exact hml2
  have hCHE : ∀ W, Kd.C (Kd.slice 3 (Kd.int .i64)) W Ag mml.length mml → Calls Try.prog 41 #[.slice Ag lg.length cg, .int .i64 1] W (fun e w' => e = .returned (.int .i64 mm) ∧ Drawn0 W w') := by
    intro W h1
    rw [hml1]
    exact laws_heldIntSS.calls k Ag cg mml 1 mm W h1 hle HHE.out
  have CHE := Aside0.mk hCHE
  clear hCHE hle hml1 hml2
  clear hM hCm b11
  -- heldIntSS
  go_wp2_with fail
  refine (CHE.out _ (Kd.S_reads' HM.out).2.2).mono ?_
  rintro e w12 ⟨rfl, hd12⟩
  have D12 := Aside0.mk (below_step D11.out hd12.below)
  have B12 := Aside0.mk (below_step B11.out hd12.below)
  have E12 := Aside0.mk hd12.below
  clear hd12
  -- toChordS
  go_wp2_with fail
  refine (HT.out _ B12.out).mono ?_
  rintro e w13 ⟨vc, rfl, hCc, b13⟩
  have D13 := Aside0.mk (below_step D12.out b13)
  have B13 := Aside0.mk (below_step B12.out b13)
  have E13 := Aside0.mk (below_step E12.out b13)
  obtain ⟨Ac, cc, rfl, hlc, hCc2⟩ := Kd.R_reads hCc
  have CIM2 := Aside0.mk (fun W (hW : W = w13) => impl_CrossingPairs.calls k a0 Ac cc tc lg b W (hW ▸ hCc2) hlc HIM.out)
  clear hCc hCc2 b13 CIM
  -- impl again
  go_wp2_with fail
  refine (CIM2.out _ rfl).mono ?_
  rintro e w14 ⟨vh, rfl, hH, b14⟩
  have D14 := Aside0.mk (below_step D13.out b14)
  have B14 := Aside0.mk (below_step B13.out b14)
  have E14 := Aside0.mk (below_step E13.out b14)
  obtain ⟨Ah, ch, rfl, hlh, hCh⟩ := Kd.S_reads hH
  have CEQ2 := Aside0.mk (fun W (hW : W = w14) (h2 : Kd.C (Kd.slice 3 (Kd.int .i64)) W Aw lw.length lw) => laws_eqIntSS.calls k Ah ch lg Aw cw lw true W (hW ▸ hCh) hlh h2 hlw HEQ.out)
  clear hH hCh b14 CEQ
  go_wp2_with fail
  refine (CEQ2.out _ rfl (readW.out _ D14.out)).mono ?_
  rintro e w15 ⟨rfl, hd15⟩
  have B15 := Aside0.mk (below_step B14.out hd15.below)
  have E15 := Aside0.mk (below_step E14.out hd15.below)
  clear hd15
  go_wp2_with fail
  refine (CHE.out _ (Kd.S_reads' (Kd.S_below HM.out E15.out)).2.2).mono ?_
  rintro e w16 ⟨rfl, hd16⟩
  have B16 := Aside0.mk (below_step B15.out hd16.below)
  clear hd16
  go_wp2_with fail
  go_ret
  exact ⟨rfl, B16.out⟩
theorem laws_FnExactCrossingPairs.calls (k : Nat) (a0 : Int) (A1 : Option Addr) (c1 : Nat) (l1 : List S50) (r : Bool) (w : World) (hr1 : Kd.C k50 w A1 l1.length l1) (hc1 : l1.length ≤ c1) (h : laws_FnExactCrossingPairs.f k a0 l1 = some r) :
    Calls Try.prog 10 #[.int .i64 a0, .slice A1 l1.length c1] w fun e w' => e = .returned (.bool r) ∧ Below w.heap.size w w' := by
  unfold laws_FnExactCrossingPairs.f at h
  obtain ⟨t, ht, h⟩ := Option.bind_eq_some_iff.mp h
  have HSZ := Aside0.mk (fun W (hb : Below w.heap.size w W) => laws_szChordS.calls A1 c1 l1 1048576 t W (Kd.C_below hr1 hb) hc1 ht)
  by_cases hneg : t < 0
  · rw [if_pos hneg] at h
    obtain rfl := Option.some.inj h
    exact crossingPairs_small a0 A1 c1 _ t w hneg HSZ
  · rw [if_neg hneg] at h
    obtain ⟨tc, htc, h2⟩ := Option.bind_eq_some_iff.mp h
    obtain ⟨⟨lw, bw⟩, hsp, h3⟩ := Option.bind_eq_some_iff.mp h2
    obtain ⟨⟨lg, bg⟩, him, h4⟩ := Option.bind_eq_some_iff.mp h3
    obtain ⟨e1, heq, h5⟩ := Option.bind_eq_some_iff.mp h4
    obtain ⟨e2, hec, h6⟩ := Option.bind_eq_some_iff.mp h5
    obtain ⟨⟨mk, mkl⟩, hmk, h7⟩ := Option.bind_eq_some_iff.mp h6
    obtain ⟨⟨mm, mml⟩, hmm, h8⟩ := Option.bind_eq_some_iff.mp h7
    obtain ⟨hq, hhe, h9⟩ := Option.bind_eq_some_iff.mp h8
    clear h h2 h3 h4 h5 h6 h7 h8
    split at h9
    · rename_i hc
      obtain ⟨q1, q2, q3, q4, q5, q6⟩ := hc
      simp only at q1 q2 q3 q4 q5 q6
      subst q1; subst q2; subst q3; subst q6
      obtain rfl := Option.some.inj h9
      exact crossingPairs_walk a0 A1 c1 _ t tc lw lg bg mk mkl hq mml k w hneg (by omega) (by omega) HSZ
        ⟨fun W hb => laws_toChordS.calls k A1 c1 l1 tc W (Kd.C_below hr1 hb) hc1 htc⟩ ⟨hsp⟩ ⟨him⟩ ⟨heq⟩ ⟨hec⟩ ⟨hmk⟩ ⟨hmm⟩ ⟨hhe⟩
    · cases h9


end Go.Proofs.Ytkiookioejckbaa.X
