-- The printed functions that FnCrossingsTold needs. Written by a program of this work (wip/tools/xpack.py). Not trusted: it is checked when it is built.
import Derived.Test.YtlnjfbnabjgffaaZFnCrossingsTold1
namespace Go.Proofs.Ytlnjfbnabjgffaa.X
open Go.RowKit Go.Proofs.YtlnjfbnabjgffaaW.PrintWords Go.Proofs.YtlnjfbnabjgffaaW.PrintLast Go.Proofs.YtlnjfbnabjgffaaW.PrintMore
attribute [local go_sem] max2_int min2_int max_two min_two max_three min_three max_four min_four   -- for this text's walks alone
set_option linter.unusedVariables false
set_option linter.unusedSimpArgs false

/-! ### laws_FnCrossingsTold: function 6 (given by hand) -/
def ctX (c d : S50) : Bool := (((decide (d.f0 > c.f0) && decide (d.f0 < c.f1)) != (decide (d.f1 > c.f0) && decide (d.f1 < c.f1))) && ((d.f0 != c.f0) && ((d.f0 != c.f1) && ((d.f1 != c.f0) && (d.f1 != c.f1)))))
def ctN (l : List S50) : Nat → Nat
  | 0 => 0
  | i + 1 => ctN l i + (l.take i).countP (ctX (rd_T50 l (i : Int)))
theorem ctN_le (l : List S50) : ∀ i, ctN l i ≤ i * l.length
  | 0 => by simp [ctN]
  | i + 1 => by
    have ih := ctN_le l i
    have h := List.countP_le_length (p := ctX (rd_T50 l (i : Int))) (l := l.take i)
    rw [List.length_take] at h
    rw [ctN, Nat.succ_mul]
    omega
theorem ct_step (l : List S50) (c : S50) (j : Nat) (hj : j < l.length) : (l.take (j + 1)).countP (ctX c) = (l.take j).countP (ctX c) + (if ctX c (rd_T50 l (j : Int)) = true then 1 else 0) := by
  have e : l.take (j + 1) = l.take j ++ [l[j]] := List.take_succ_eq_append_getElem hj
  have e2 : rd_T50 l (j : Int) = l[j] := by
    unfold rd_T50
    rw [Int.toNat_natCast, List.getD_eq_getElem?_getD, List.getElem?_eq_getElem hj, Option.getD_some]
  rw [e, e2, List.countP_append, List.countP_singleton]
def laws_FnCrossingsTold.f (k : Nat) (a0_0 a0_1 : Int) : Option Bool :=
  (impl_ChordsOf.f k a0_0 a0_1).bind fun r => (spec_ChordsOf.f k a0_0 a0_1).bind fun q => if r.2 = q.2 ∧ (r.1.map (·.f0) = q.1.map (·.f0) ∧ r.1.map (·.f1) = q.1.map (·.f1)) ∧ r.1.length ≤ 1000 then
    (if r.2 = false then some true else (impl_CountCrossings.f k a0_0 a0_1).bind fun c => if c = (((ctN r.1 r.1.length : Nat) : Int), true) then some true else none) else none
set_option maxHeartbeats 8000000 in
set_option maxRecDepth 100000 in
theorem told_walk (k : Nat) (a0_0 a0_1 : Int) (l : List S50) (M : Nat) (w : World) (hM : Aside0 (ctN l l.length = M)) (hl : l.length ≤ 1000)
    (HI : Aside0 (impl_ChordsOf.f k a0_0 a0_1 = some (l, true))) (HS : Aside0 (spec_ChordsOf.f k a0_0 a0_1 = some (l, true))) (HCC : Aside0 (impl_CountCrossings.f k a0_0 a0_1 = some ((M : Int), true))) :
    Calls Try.prog 6 #[.agg #[.int .i64 a0_0, .int .i64 a0_1]] w fun e w' => e = .returned (.bool true) ∧ Below w.heap.size w w' := by
  go_enter Try.func6, Try.ntmps6
  go_wp2_with fail
  refine (impl_ChordsOf.calls k a0_0 a0_1 l true _ HI.out).mono ?_
  rintro e w1 ⟨v0, rfl, hL, hb1⟩
  have HB1 := Aside0.mk (show Below w.heap.size w w1 from below_step (below_alloc (Below.refl _ _) _) hb1)
  have HP1 := Aside0.mk (show w1.heap[w.heap.size]? = some (.cells #[.int .i64 a0_0, .int .i64 a0_1] 26 (0, 0)) from blk_below (MapKept.heap_alloc w _).1 hb1)
  have HL1 := Aside0.mk hL
  clear hL hb1
  have hc0 : w1.cell? ⟨w.heap.size, 0, none⟩ = some (.int .i64 a0_0) := (blk_cell HP1.out 0).trans rfl
  have hc1 : w1.cell? ⟨w.heap.size, 1, none⟩ = some (.int .i64 a0_1) := (blk_cell HP1.out 1).trans rfl
  go_wp2_with fail
  clear hc0 hc1
  refine (spec_ChordsOf.calls k a0_0 a0_1 l true _ HS.out).mono ?_
  rintro e w2 ⟨v5, rfl, hW, hb2⟩
  have HB2 := Aside0.mk (below_step HB1.out hb2)
  have HP2 := Aside0.mk (blk_below HP1.out hb2)
  have HL2 := Aside0.mk (Kd.R_below HL1.out hb2)
  have HW2 := Aside0.mk hW
  clear hW hb2 HB1 HP1 HL1
  obtain ⟨A3, c3, rfl, hl3, _⟩ := Kd.R_reads HL2.out
  obtain ⟨A5, c5, rfl, hl5, _⟩ := Kd.R_reads HW2.out
  have HRL := Aside0.mk (fun (W : World) (hb : Below w2.heap.size w2 W) => Kd.C_below (Kd.R_reads' HL2.out).2.2 hb)
  have HRW := Aside0.mk (fun (W : World) (hb : Below w2.heap.size w2 W) => Kd.C_below (Kd.R_reads' HW2.out).2.2 hb)
  have qlen : ((l.length : Int) != (l.length : Int)) = false := by simp
  go_wp2_with fail
  go_loopg [7, 39] l.length (fun gg v7 v39 wr => ∃ (i : Nat), v39 = .int .i64 (i : Int) ∧ i ≤ l.length ∧ l.length - i ≤ gg ∧ v7 = .int .i64 (ctN l i : Nat) ∧ Aside0 (Below w2.heap.size w2 wr))
  case atStart => exact ⟨0, rfl, Nat.zero_le _, by omega, rfl, ⟨Below.refl _ _⟩⟩
  case round =>
    obtain ⟨i, rfl, hi, hmi, rfl, HX⟩ := hrel
    by_cases hil : i < l.length
    · have c0b : decide ((i : Int) < (l.length : Int)) = true := decide_eq_true (by omega)
      obtain ⟨ad, hA, m0, m1⟩ := at_T50 (HRL.out _ HX.out) (i : Int) (by omega) (by omega)
      cases hA
      obtain ⟨aw, hAw, k0, k1⟩ := at_T50 (HRW.out _ HX.out) (i : Int) (by omega) (by omega)
      cases hAw
      rw [Int.toNat_natCast] at m0 m1 k0 k1
      obtain ⟨c, hc⟩ : ∃ c, rd_T50 l (i : Int) = c := ⟨_, rfl⟩
      rw [hc] at m0 m1 k0 k1
      obtain ⟨c0, c1⟩ := c
      simp only at m0 m1 k0 k1
      have HC0 := Aside0.mk hc
      clear hc
      have HCTL := Aside0.mk (ctN_le l i)
      have hsl1 : (i : Int) ≤ (c3 : Int) := by omega
      go_wp2_with fail
      have HX2 := Aside0.mk (below_alloc HX.out (.cells #[.int .i64 c0, .int .i64 c1] 50))
      have HBC := Aside0.mk (show (wr.alloc (.cells #[.int .i64 c0, .int .i64 c1] 50)).heap[wr.heap.size]? = some (.cells #[.int .i64 c0, .int .i64 c1] 50 (0, 0)) from (MapKept.heap_alloc wr _).1)
      clear k0 k1 m0 m1
      obtain ⟨aw2, hAw2, k0', k1'⟩ := at_T50 (HRW.out _ HX2.out) (i : Int) (by omega) (by omega)
      obtain rfl : aw = aw2 := Option.some.inj hAw2
      rw [Int.toNat_natCast] at k0' k1'
      rw [HC0.out] at k0' k1'
      simp only at k0' k1'
      clear hAw2
      have b0 : (wr.alloc (.cells #[.int .i64 c0, .int .i64 c1] 50)).cell? ⟨wr.heap.size, 0, none⟩ = some (.int .i64 c0) := (blk_cell HBC.out 0).trans rfl
      have b1 : (wr.alloc (.cells #[.int .i64 c0, .int .i64 c1] 50)).cell? ⟨wr.heap.size, 1, none⟩ = some (.int .i64 c1) := (blk_cell HBC.out 1).trans rfl
      generalize hwb : wr.heap.size = gb at b0 b1 HBC ⊢
      generalize wr.alloc (.cells #[.int .i64 c0, .int .i64 c1] 50) = wy at k0' k1' HX2 HBC b0 b1 ⊢
      go_region
      clear k0' k1' b0 b1
      have HX3 := Aside0.mk (below_drew1 HX2.out)
      have HBC3 := Aside0.mk (blk_drew HBC.out)
      clear HX2 HBC
      generalize wy.drew = wz at HX3 HBC3 ⊢
      go_wp2_with fail
      go_loopg [7, 54] i (fun gg v7 v54 wx => ∃ (j : Nat), v54 = .int .i64 (j : Int) ∧ j ≤ i ∧ i - j ≤ gg ∧ v7 = .int .i64 ((ctN l i + (l.take j).countP (ctX ⟨c0, c1⟩) : Nat) : Int) ∧ Aside0 (Below w2.heap.size w2 wx ∧ wx.heap[gb]? = some (.cells #[.int .i64 c0, .int .i64 c1] 50 (0, 0))))
      case atStart => exact ⟨0, rfl, Nat.zero_le _, by omega, by simp, ⟨HX3.out, HBC3.out⟩⟩
      case round =>
        obtain ⟨j, rfl, hj, hmj, rfl, HXJ⟩ := hrel
        by_cases hji : j < i
        · have cjb : decide ((j : Int) < (i : Int)) = true := decide_eq_true (by omega)
          obtain ⟨ad2, hA2, m0, m1⟩ := at_T50 (HRL.out _ HXJ.out.1) (j : Int) (by omega) (by omega)
          obtain rfl : ad = ad2 := Option.some.inj hA2
          clear hA2
          rw [Int.toNat_natCast] at m0 m1
          have CTS0 := ct_step l ⟨c0, c1⟩ j (by omega)
          obtain ⟨d, hd⟩ : ∃ d, rd_T50 l (j : Int) = d := ⟨_, rfl⟩
          rw [hd] at m0 m1 CTS0
          obtain ⟨d0, d1⟩ := d
          simp only at m0 m1
          have CTS := Aside0.mk CTS0
          have CTB := Aside0.mk (show ctN l i + (l.take j).countP (ctX ⟨c0, c1⟩) ≤ 2000000 by
            have h1 := HCTL.out
            have h2 : i * l.length ≤ 1000 * 1000 := Nat.mul_le_mul (by omega) hl
            have h3 := List.countP_le_length (p := ctX ⟨c0, c1⟩) (l := l.take j)
            rw [List.length_take] at h3
            omega)
          have HXb := Aside0.mk (below_alloc HXJ.out.1 (.cells #[.int .i64 d0, .int .i64 d1] 50))
          have HBb := Aside0.mk (blk_alloc HXJ.out.2 (.cells #[.int .i64 d0, .int .i64 d1] 50))
          have b0 : (wr.alloc (.cells #[.int .i64 d0, .int .i64 d1] 50)).cell? ⟨gb, 0, none⟩ = some (.int .i64 c0) := (blk_cell HBb.out 0).trans rfl
          have b1 : (wr.alloc (.cells #[.int .i64 d0, .int .i64 d1] 50)).cell? ⟨gb, 1, none⟩ = some (.int .i64 c1) := (blk_cell HBb.out 1).trans rfl
          clear hd CTS0
          by_cases g1 : d0 > c0
          · have g1b : decide (d0 > c0) = true := decide_eq_true g1; clear g1
            by_cases g2 : d0 < c1
            · have g2b : decide (d0 < c1) = true := decide_eq_true g2; clear g2
              by_cases g3 : d1 > c0
              · have g3b : decide (d1 > c0) = true := decide_eq_true g3; clear g3
                by_cases g4 : d1 < c1
                · have g4b : decide (d1 < c1) = true := decide_eq_true g4; clear g4
                  have hx : ctX ⟨c0, c1⟩ ⟨d0, d1⟩ = false := by simp only [ctX, g1b, g2b, g3b, g4b, Bool.true_and, Bool.false_and, Bool.and_false, Bool.and_true] <;> rfl
                  have HX := Aside0.mk hx
                  clear hx
                  go_wp2_with fail
                  go_roundg (i - (j + 1))
                  case measure => omega
                  case rel => exact ⟨j + 1, by go_num, by omega, Nat.le_refl _, by rw [CTS.out, HX.out, if_neg (by simp)]; rfl, ⟨HXb.out, HBb.out⟩⟩
                · have g4b : decide (d1 < c1) = false := decide_eq_false g4; clear g4
                  by_cases n1 : (d0 != c0) = true
                  · have n1b := n1; clear n1
                    by_cases n2 : (d0 != c1) = true
                    · have n2b := n2; clear n2
                      by_cases n3 : (d1 != c0) = true
                      · have n3b := n3; clear n3
                        by_cases n4 : (d1 != c1) = true
                        · have n4b := n4; clear n4
                          have hx : ctX ⟨c0, c1⟩ ⟨d0, d1⟩ = true := by simp only [ctX, g1b, g2b, g3b, g4b, n1b, n2b, n3b, n4b] <;> rfl
                          have HX := Aside0.mk hx
                          clear hx
                          go_wp2_with fail
                          go_roundg (i - (j + 1))
                          case measure => omega
                          case rel => exact ⟨j + 1, by go_num, by omega, Nat.le_refl _, by rw [CTS.out, HX.out, if_pos rfl]; exact congrArg (Value.int .i64) (by have := CTB.out; unfold wrap64; omega), ⟨HXb.out, HBb.out⟩⟩
                        · have n4b : (d1 != c1) = false := (by simpa using n4); clear n4
                          have hx : ctX ⟨c0, c1⟩ ⟨d0, d1⟩ = false := by simp only [ctX, g1b, g2b, g3b, g4b, n1b, n2b, n3b, n4b] <;> rfl
                          have HX := Aside0.mk hx
                          clear hx
                          go_wp2_with fail
                          go_roundg (i - (j + 1))
                          case measure => omega
                          case rel => exact ⟨j + 1, by go_num, by omega, Nat.le_refl _, by rw [CTS.out, HX.out, if_neg (by simp)]; rfl, ⟨HXb.out, HBb.out⟩⟩
                      · have n3b : (d1 != c0) = false := (by simpa using n3); clear n3
                        have hx : ctX ⟨c0, c1⟩ ⟨d0, d1⟩ = false := by simp only [ctX, g1b, g2b, g3b, g4b, n1b, n2b, n3b] <;> rfl
                        have HX := Aside0.mk hx
                        clear hx
                        go_wp2_with fail
                        go_roundg (i - (j + 1))
                        case measure => omega
                        case rel => exact ⟨j + 1, by go_num, by omega, Nat.le_refl _, by rw [CTS.out, HX.out, if_neg (by simp)]; rfl, ⟨HXb.out, HBb.out⟩⟩
                    · have n2b : (d0 != c1) = false := (by simpa using n2); clear n2
                      have hx : ctX ⟨c0, c1⟩ ⟨d0, d1⟩ = false := by simp only [ctX, g1b, g2b, g3b, g4b, n1b, n2b] <;> rfl
                      have HX := Aside0.mk hx
                      clear hx
                      go_wp2_with fail
                      go_roundg (i - (j + 1))
                      case measure => omega
                      case rel => exact ⟨j + 1, by go_num, by omega, Nat.le_refl _, by rw [CTS.out, HX.out, if_neg (by simp)]; rfl, ⟨HXb.out, HBb.out⟩⟩
                  · have n1b : (d0 != c0) = false := (by simpa using n1); clear n1
                    have hx : ctX ⟨c0, c1⟩ ⟨d0, d1⟩ = false := by simp only [ctX, g1b, g2b, g3b, g4b, n1b] <;> rfl
                    have HX := Aside0.mk hx
                    clear hx
                    go_wp2_with fail
                    go_roundg (i - (j + 1))
                    case measure => omega
                    case rel => exact ⟨j + 1, by go_num, by omega, Nat.le_refl _, by rw [CTS.out, HX.out, if_neg (by simp)]; rfl, ⟨HXb.out, HBb.out⟩⟩
              · have g3b : decide (d1 > c0) = false := decide_eq_false g3; clear g3
                by_cases n1 : (d0 != c0) = true
                · have n1b := n1; clear n1
                  by_cases n2 : (d0 != c1) = true
                  · have n2b := n2; clear n2
                    by_cases n3 : (d1 != c0) = true
                    · have n3b := n3; clear n3
                      by_cases n4 : (d1 != c1) = true
                      · have n4b := n4; clear n4
                        have hx : ctX ⟨c0, c1⟩ ⟨d0, d1⟩ = true := by simp only [ctX, g1b, g2b, g3b, n1b, n2b, n3b, n4b] <;> rfl
                        have HX := Aside0.mk hx
                        clear hx
                        go_wp2_with fail
                        go_roundg (i - (j + 1))
                        case measure => omega
                        case rel => exact ⟨j + 1, by go_num, by omega, Nat.le_refl _, by rw [CTS.out, HX.out, if_pos rfl]; exact congrArg (Value.int .i64) (by have := CTB.out; unfold wrap64; omega), ⟨HXb.out, HBb.out⟩⟩
                      · have n4b : (d1 != c1) = false := (by simpa using n4); clear n4
                        have hx : ctX ⟨c0, c1⟩ ⟨d0, d1⟩ = false := by simp only [ctX, g1b, g2b, g3b, n1b, n2b, n3b, n4b] <;> rfl
                        have HX := Aside0.mk hx
                        clear hx
                        go_wp2_with fail
                        go_roundg (i - (j + 1))
                        case measure => omega
                        case rel => exact ⟨j + 1, by go_num, by omega, Nat.le_refl _, by rw [CTS.out, HX.out, if_neg (by simp)]; rfl, ⟨HXb.out, HBb.out⟩⟩
                    · have n3b : (d1 != c0) = false := (by simpa using n3); clear n3
                      have hx : ctX ⟨c0, c1⟩ ⟨d0, d1⟩ = false := by simp only [ctX, g1b, g2b, g3b, n1b, n2b, n3b] <;> rfl
                      have HX := Aside0.mk hx
                      clear hx
                      go_wp2_with fail
                      go_roundg (i - (j + 1))
                      case measure => omega
                      case rel => exact ⟨j + 1, by go_num, by omega, Nat.le_refl _, by rw [CTS.out, HX.out, if_neg (by simp)]; rfl, ⟨HXb.out, HBb.out⟩⟩
                  · have n2b : (d0 != c1) = false := (by simpa using n2); clear n2
                    have hx : ctX ⟨c0, c1⟩ ⟨d0, d1⟩ = false := by simp only [ctX, g1b, g2b, g3b, n1b, n2b] <;> rfl
                    have HX := Aside0.mk hx
                    clear hx
                    go_wp2_with fail
                    go_roundg (i - (j + 1))
                    case measure => omega
                    case rel => exact ⟨j + 1, by go_num, by omega, Nat.le_refl _, by rw [CTS.out, HX.out, if_neg (by simp)]; rfl, ⟨HXb.out, HBb.out⟩⟩
                · have n1b : (d0 != c0) = false := (by simpa using n1); clear n1
                  have hx : ctX ⟨c0, c1⟩ ⟨d0, d1⟩ = false := by simp only [ctX, g1b, g2b, g3b, n1b] <;> rfl
                  have HX := Aside0.mk hx
                  clear hx
                  go_wp2_with fail
                  go_roundg (i - (j + 1))
                  case measure => omega
                  case rel => exact ⟨j + 1, by go_num, by omega, Nat.le_refl _, by rw [CTS.out, HX.out, if_neg (by simp)]; rfl, ⟨HXb.out, HBb.out⟩⟩
            · have g2b : decide (d0 < c1) = false := decide_eq_false g2; clear g2
              by_cases g3 : d1 > c0
              · have g3b : decide (d1 > c0) = true := decide_eq_true g3; clear g3
                by_cases g4 : d1 < c1
                · have g4b : decide (d1 < c1) = true := decide_eq_true g4; clear g4
                  by_cases n1 : (d0 != c0) = true
                  · have n1b := n1; clear n1
                    by_cases n2 : (d0 != c1) = true
                    · have n2b := n2; clear n2
                      by_cases n3 : (d1 != c0) = true
                      · have n3b := n3; clear n3
                        by_cases n4 : (d1 != c1) = true
                        · have n4b := n4; clear n4
                          have hx : ctX ⟨c0, c1⟩ ⟨d0, d1⟩ = true := by simp only [ctX, g1b, g2b, g3b, g4b, n1b, n2b, n3b, n4b] <;> rfl
                          have HX := Aside0.mk hx
                          clear hx
                          go_wp2_with fail
                          go_roundg (i - (j + 1))
                          case measure => omega
                          case rel => exact ⟨j + 1, by go_num, by omega, Nat.le_refl _, by rw [CTS.out, HX.out, if_pos rfl]; exact congrArg (Value.int .i64) (by have := CTB.out; unfold wrap64; omega), ⟨HXb.out, HBb.out⟩⟩
                        · have n4b : (d1 != c1) = false := (by simpa using n4); clear n4
                          have hx : ctX ⟨c0, c1⟩ ⟨d0, d1⟩ = false := by simp only [ctX, g1b, g2b, g3b, g4b, n1b, n2b, n3b, n4b] <;> rfl
                          have HX := Aside0.mk hx
                          clear hx
                          go_wp2_with fail
                          go_roundg (i - (j + 1))
                          case measure => omega
                          case rel => exact ⟨j + 1, by go_num, by omega, Nat.le_refl _, by rw [CTS.out, HX.out, if_neg (by simp)]; rfl, ⟨HXb.out, HBb.out⟩⟩
                      · have n3b : (d1 != c0) = false := (by simpa using n3); clear n3
                        have hx : ctX ⟨c0, c1⟩ ⟨d0, d1⟩ = false := by simp only [ctX, g1b, g2b, g3b, g4b, n1b, n2b, n3b] <;> rfl
                        have HX := Aside0.mk hx
                        clear hx
                        go_wp2_with fail
                        go_roundg (i - (j + 1))
                        case measure => omega
                        case rel => exact ⟨j + 1, by go_num, by omega, Nat.le_refl _, by rw [CTS.out, HX.out, if_neg (by simp)]; rfl, ⟨HXb.out, HBb.out⟩⟩
                    · have n2b : (d0 != c1) = false := (by simpa using n2); clear n2
                      have hx : ctX ⟨c0, c1⟩ ⟨d0, d1⟩ = false := by simp only [ctX, g1b, g2b, g3b, g4b, n1b, n2b] <;> rfl
                      have HX := Aside0.mk hx
                      clear hx
                      go_wp2_with fail
                      go_roundg (i - (j + 1))
                      case measure => omega
                      case rel => exact ⟨j + 1, by go_num, by omega, Nat.le_refl _, by rw [CTS.out, HX.out, if_neg (by simp)]; rfl, ⟨HXb.out, HBb.out⟩⟩
                  · have n1b : (d0 != c0) = false := (by simpa using n1); clear n1
                    have hx : ctX ⟨c0, c1⟩ ⟨d0, d1⟩ = false := by simp only [ctX, g1b, g2b, g3b, g4b, n1b] <;> rfl
                    have HX := Aside0.mk hx
                    clear hx
                    go_wp2_with fail
                    go_roundg (i - (j + 1))
                    case measure => omega
                    case rel => exact ⟨j + 1, by go_num, by omega, Nat.le_refl _, by rw [CTS.out, HX.out, if_neg (by simp)]; rfl, ⟨HXb.out, HBb.out⟩⟩
                · have g4b : decide (d1 < c1) = false := decide_eq_false g4; clear g4
                  have hx : ctX ⟨c0, c1⟩ ⟨d0, d1⟩ = false := by simp only [ctX, g1b, g2b, g3b, g4b, Bool.true_and, Bool.false_and, Bool.and_false, Bool.and_true] <;> rfl
                  have HX := Aside0.mk hx
                  clear hx
                  go_wp2_with fail
                  go_roundg (i - (j + 1))
                  case measure => omega
                  case rel => exact ⟨j + 1, by go_num, by omega, Nat.le_refl _, by rw [CTS.out, HX.out, if_neg (by simp)]; rfl, ⟨HXb.out, HBb.out⟩⟩
              · have g3b : decide (d1 > c0) = false := decide_eq_false g3; clear g3
                have hx : ctX ⟨c0, c1⟩ ⟨d0, d1⟩ = false := by simp only [ctX, g1b, g2b, g3b, Bool.true_and, Bool.false_and, Bool.and_false, Bool.and_true] <;> rfl
                have HX := Aside0.mk hx
                clear hx
                go_wp2_with fail
                go_roundg (i - (j + 1))
                case measure => omega
                case rel => exact ⟨j + 1, by go_num, by omega, Nat.le_refl _, by rw [CTS.out, HX.out, if_neg (by simp)]; rfl, ⟨HXb.out, HBb.out⟩⟩
          · have g1b : decide (d0 > c0) = false := decide_eq_false g1; clear g1
            by_cases g3 : d1 > c0
            · have g3b : decide (d1 > c0) = true := decide_eq_true g3; clear g3
              by_cases g4 : d1 < c1
              · have g4b : decide (d1 < c1) = true := decide_eq_true g4; clear g4
                by_cases n1 : (d0 != c0) = true
                · have n1b := n1; clear n1
                  by_cases n2 : (d0 != c1) = true
                  · have n2b := n2; clear n2
                    by_cases n3 : (d1 != c0) = true
                    · have n3b := n3; clear n3
                      by_cases n4 : (d1 != c1) = true
                      · have n4b := n4; clear n4
                        have hx : ctX ⟨c0, c1⟩ ⟨d0, d1⟩ = true := by simp only [ctX, g1b, g3b, g4b, n1b, n2b, n3b, n4b] <;> rfl
                        have HX := Aside0.mk hx
                        clear hx
                        go_wp2_with fail
                        go_roundg (i - (j + 1))
                        case measure => omega
                        case rel => exact ⟨j + 1, by go_num, by omega, Nat.le_refl _, by rw [CTS.out, HX.out, if_pos rfl]; exact congrArg (Value.int .i64) (by have := CTB.out; unfold wrap64; omega), ⟨HXb.out, HBb.out⟩⟩
                      · have n4b : (d1 != c1) = false := (by simpa using n4); clear n4
                        have hx : ctX ⟨c0, c1⟩ ⟨d0, d1⟩ = false := by simp only [ctX, g1b, g3b, g4b, n1b, n2b, n3b, n4b] <;> rfl
                        have HX := Aside0.mk hx
                        clear hx
                        go_wp2_with fail
                        go_roundg (i - (j + 1))
                        case measure => omega
                        case rel => exact ⟨j + 1, by go_num, by omega, Nat.le_refl _, by rw [CTS.out, HX.out, if_neg (by simp)]; rfl, ⟨HXb.out, HBb.out⟩⟩
                    · have n3b : (d1 != c0) = false := (by simpa using n3); clear n3
                      have hx : ctX ⟨c0, c1⟩ ⟨d0, d1⟩ = false := by simp only [ctX, g1b, g3b, g4b, n1b, n2b, n3b] <;> rfl
                      have HX := Aside0.mk hx
                      clear hx
                      go_wp2_with fail
                      go_roundg (i - (j + 1))
                      case measure => omega
                      case rel => exact ⟨j + 1, by go_num, by omega, Nat.le_refl _, by rw [CTS.out, HX.out, if_neg (by simp)]; rfl, ⟨HXb.out, HBb.out⟩⟩
                  · have n2b : (d0 != c1) = false := (by simpa using n2); clear n2
                    have hx : ctX ⟨c0, c1⟩ ⟨d0, d1⟩ = false := by simp only [ctX, g1b, g3b, g4b, n1b, n2b] <;> rfl
                    have HX := Aside0.mk hx
                    clear hx
                    go_wp2_with fail
                    go_roundg (i - (j + 1))
                    case measure => omega
                    case rel => exact ⟨j + 1, by go_num, by omega, Nat.le_refl _, by rw [CTS.out, HX.out, if_neg (by simp)]; rfl, ⟨HXb.out, HBb.out⟩⟩
                · have n1b : (d0 != c0) = false := (by simpa using n1); clear n1
                  have hx : ctX ⟨c0, c1⟩ ⟨d0, d1⟩ = false := by simp only [ctX, g1b, g3b, g4b, n1b] <;> rfl
                  have HX := Aside0.mk hx
                  clear hx
                  go_wp2_with fail
                  go_roundg (i - (j + 1))
                  case measure => omega
                  case rel => exact ⟨j + 1, by go_num, by omega, Nat.le_refl _, by rw [CTS.out, HX.out, if_neg (by simp)]; rfl, ⟨HXb.out, HBb.out⟩⟩
              · have g4b : decide (d1 < c1) = false := decide_eq_false g4; clear g4
                have hx : ctX ⟨c0, c1⟩ ⟨d0, d1⟩ = false := by simp only [ctX, g1b, g3b, g4b, Bool.true_and, Bool.false_and, Bool.and_false, Bool.and_true] <;> rfl
                have HX := Aside0.mk hx
                clear hx
                go_wp2_with fail
                go_roundg (i - (j + 1))
                case measure => omega
                case rel => exact ⟨j + 1, by go_num, by omega, Nat.le_refl _, by rw [CTS.out, HX.out, if_neg (by simp)]; rfl, ⟨HXb.out, HBb.out⟩⟩
            · have g3b : decide (d1 > c0) = false := decide_eq_false g3; clear g3
              have hx : ctX ⟨c0, c1⟩ ⟨d0, d1⟩ = false := by simp only [ctX, g1b, g3b, Bool.true_and, Bool.false_and, Bool.and_false, Bool.and_true] <;> rfl
              have HX := Aside0.mk hx
              clear hx
              go_wp2_with fail
              go_roundg (i - (j + 1))
              case measure => omega
              case rel => exact ⟨j + 1, by go_num, by omega, Nat.le_refl _, by rw [CTS.out, HX.out, if_neg (by simp)]; rfl, ⟨HXb.out, HBb.out⟩⟩
        · obtain rfl : j = i := by omega
          have cjb : decide ((j : Int) < (j : Int)) = false := decide_eq_false (by omega)
          go_wp2_with fail
          go_roundg (l.length - (j + 1))
          case measure => omega
          case rel => exact ⟨j + 1, by go_num, by omega, Nat.le_refl _, by simp only [ctN, HC0.out], ⟨HXJ.out.1⟩⟩
    · obtain rfl : i = l.length := by omega
      have c0b : decide ((l.length : Int) < (l.length : Int)) = false := decide_eq_false (by omega)
      have hp0 : wr.cell? ⟨w.heap.size, 0, none⟩ = some (.int .i64 a0_0) := (blk_cell (blk_below HP2.out HX.out) 0).trans rfl
      have hp1 : wr.cell? ⟨w.heap.size, 1, none⟩ = some (.int .i64 a0_1) := (blk_cell (blk_below HP2.out HX.out) 1).trans rfl
      rw [hM.out]
      go_wp2_with fail
      clear hp0 hp1
      refine (impl_CountCrossings.calls k a0_0 a0_1 (M : Int) true _ HCC.out).mono ?_
      rintro e w9 ⟨rfl, hb9⟩
      have HB9 := Aside0.mk (below_step (below_step HB2.out HX.out) hb9)
      clear hb9
      have qM : ((M : Int) == (M : Int)) = true := by simp
      go_wp2_with fail
      go_ret
      exact ⟨rfl, HB9.out⟩
set_option maxHeartbeats 1000000 in
set_option maxRecDepth 100000 in
theorem told_none (k : Nat) (a0_0 a0_1 : Int) (l : List S50) (w : World) (HI : Aside0 (impl_ChordsOf.f k a0_0 a0_1 = some (l, false))) (HS : Aside0 (spec_ChordsOf.f k a0_0 a0_1 = some (l, false))) :
    Calls Try.prog 6 #[.agg #[.int .i64 a0_0, .int .i64 a0_1]] w fun e w' => e = .returned (.bool true) ∧ Below w.heap.size w w' := by
  go_enter Try.func6, Try.ntmps6
  go_wp2_with fail
  refine (impl_ChordsOf.calls k a0_0 a0_1 l false _ HI.out).mono ?_
  rintro e w1 ⟨v0, rfl, hL, hb1⟩
  have HB1 := Aside0.mk (show Below w.heap.size w w1 from below_step (below_alloc (Below.refl _ _) _) hb1)
  have HP1 := Aside0.mk (show w1.heap[w.heap.size]? = some (.cells #[.int .i64 a0_0, .int .i64 a0_1] 26 (0, 0)) from blk_below (MapKept.heap_alloc w _).1 hb1)
  obtain ⟨A3, c3, rfl, _, _⟩ := Kd.R_reads hL
  clear hL hb1
  have hc0 : w1.cell? ⟨w.heap.size, 0, none⟩ = some (.int .i64 a0_0) := (blk_cell HP1.out 0).trans rfl
  have hc1 : w1.cell? ⟨w.heap.size, 1, none⟩ = some (.int .i64 a0_1) := (blk_cell HP1.out 1).trans rfl
  go_wp2_with fail
  clear hc0 hc1
  refine (spec_ChordsOf.calls k a0_0 a0_1 l false _ HS.out).mono ?_
  rintro e w2 ⟨v5, rfl, hW, hb2⟩
  have HB2 := Aside0.mk (below_step HB1.out hb2)
  obtain ⟨A5, c5, rfl, _, _⟩ := Kd.R_reads hW
  clear hW hb2
  have qlen : ((l.length : Int) != (l.length : Int)) = false := by simp
  go_wp2_with fail
  go_ret
  exact ⟨rfl, HB2.out⟩
theorem chords_ext : ∀ (l m : List S50), l.map (·.f0) = m.map (·.f0) → l.map (·.f1) = m.map (·.f1) → l = m
  | [], [], _, _ => rfl
  | [], _ :: _, h, _ => by cases h
  | _ :: _, [], h, _ => by cases h
  | x :: l, y :: m, h, g => by
    simp only [List.map_cons, List.cons.injEq] at h g
    rw [chords_ext l m h.2 g.2]
    obtain ⟨a, b⟩ := x
    obtain ⟨c, d⟩ := y
    simp only at h g
    rw [h.1, g.1]
theorem laws_FnCrossingsTold.calls (k : Nat) (a0_0 : Int) (a0_1 : Int) (r : Bool) (w : World) (h : laws_FnCrossingsTold.f k a0_0 a0_1 = some r) :
    Calls Try.prog 6 #[.agg #[.int .i64 a0_0, .int .i64 a0_1]] w fun e w' => e = .returned (.bool r) ∧ Below w.heap.size w w' := by
  unfold laws_FnCrossingsTold.f at h
  obtain ⟨⟨l, b⟩, hI, h⟩ := Option.bind_eq_some_iff.mp h
  obtain ⟨⟨m, c⟩, hS, h⟩ := Option.bind_eq_some_iff.mp h
  simp only at h
  by_cases hc : b = c ∧ (l.map (·.f0) = m.map (·.f0) ∧ l.map (·.f1) = m.map (·.f1)) ∧ l.length ≤ 1000
  · rw [if_pos hc] at h
    obtain ⟨rfl, ⟨h0, h1⟩, hl⟩ := hc
    obtain rfl := chords_ext l m h0 h1
    cases b with
    | false =>
      simp only [if_true] at h
      obtain rfl := Option.some.inj h
      exact told_none k a0_0 a0_1 l w ⟨hI⟩ ⟨hS⟩
    | true =>
      simp only [Bool.true_eq_false, if_false] at h
      obtain ⟨q, hq, h⟩ := Option.bind_eq_some_iff.mp h
      by_cases e : q = (((ctN l l.length : Nat) : Int), true)
      · rw [if_pos e] at h
        obtain rfl := Option.some.inj h
        subst e
        exact told_walk k a0_0 a0_1 l (ctN l l.length) w ⟨rfl⟩ hl ⟨hI⟩ ⟨hS⟩ ⟨hq⟩
      · rw [if_neg e] at h
        cases h
  · rw [if_neg hc] at h
    cases h

end Go.Proofs.Ytlnjfbnabjgffaa.X
