/- What the statement FnStarsString needs, part 6 of 6: words, contracts and lemmas, cut to what is named. Written by a program of this work (wip/tools/gpack.py) out of its texts and the print's. -/
import Derived.Test.YthmhfagnenoibaaGreatDoorZFnStarsString4
import Derived.WideShapes
import Derived.ChangeSame
import Derived.OpenShut
import Derived.DataElems
import Derived.ChangeArms
import Derived.ChangeSlices
set_option linter.unusedVariables false
set_option linter.unusedSimpArgs false
section
namespace Go.Proofs.YthmhfagnenoibaaGreatDoor.X
open Go.RowKit Go.Proofs.YthmhfagnenoibaaGreatDoorW.PrintWords Go.Proofs.YthmhfagnenoibaaGreatDoorW.PrintLast Go.Proofs.YthmhfagnenoibaaGreatDoorW.PrintMore
attribute [local go_sem] max2_int min2_int max_two min_two max_three min_three max_four min_four
set_option linter.unusedVariables false
set_option linter.unusedSimpArgs false
set_option maxHeartbeats 8000000 in
set_option maxRecDepth 100000 in
theorem law_walk (A0 : Option Addr) (c0 : Nat) (l0 : List Int) (A1 : Option Addr) (c1 : Nat) (l1 : List Int) (w : World) (hr0 : Kd.C (Kd.int .u8) w A0 l0.length l0) (hc0 : l0.length ≤ c0) (hr1 : Kd.C (Kd.int .u8) w A1 l1.length l1) (hc1 : l1.length ≤ c1) (hb0 : isBytes l0) (hb1 : isBytes l1) (hG : GW w)
    (hstar : Aside0 (∀ n s, StarDom n s → ∃ R b cnt tu sm tx, StrVal n s R b cnt tu sm tx ∧ (b = true → StrOk n s R cnt tu sm tx)))
    (hpt : Aside0 (∀ n s x, StarDom n s → PtDom n s x → ∃ L y nx, PtVal n s x L y nx))
    (hsteps : Aside0 (∀ n s x y, StarDom n s → PtDom n s x → 0 ≤ y → y < 16 → ∃ r b, StepsVal n s x y r b))
    (hto : Aside0 (∀ p x y k, (∃ s, StarDom p s ∧ PtDom p s x) → 0 ≤ y → y < 16 → k ∈ stepKs → ∃ r b, ToVal p x y k r b))
    (hafter : Aside0 (∀ n s x k, StarDom n s → PtDom n s x → k ∈ afterKs → ∃ r b, AfterVal n s x k r b))
    (htx : Aside0 (∀ p s : Int, 3 ≤ p → p ≤ 14 → 1 ≤ s → s < p → ∃ t : ByteArray, spec_srText.f 10000 p s = some t ∧ t.size ≤ 50))
    (hread : Aside0 (∀ t : ByteArray, t.size ≤ 100 → ∃ p s b, ReadVal t p s b)) :
    Calls Tryz.prog 3 #[.slice A0 l0.length c0, .slice A1 l1.length c1] w fun e w' => e = .returned (.bool true) ∧ Below w.heap.size w w' := by
  have HR0 := Aside0.mk hr0
  have HR1 := Aside0.mk hr1
  have H0 := Aside0.mk hb0
  have H1 := Aside0.mk hb1
  have HG := Aside0.mk hG
  have HBig := Aside0.mk (fun r h => laws_big.calls A0 c0 l0 A1 c1 l1 r w hr0 hc0 hr1 hc1 h)
  clear hr0 hr1 hb0 hb1 hG
  go_enter Tryz.func3, Tryz.ntmps3
  go_wp2_with fail
  obtain ⟨r, hr⟩ : ∃ r, laws_big.f l0 l1 = some r := by unfold laws_big.f; split <;> exact ⟨_, rfl⟩
  refine (HBig.out r hr).mono ?_
  rintro e w1 ⟨rfl, ⟨⟨nd, rfl⟩⟩⟩
  clear hr HBig
  cases r with
  | true =>
    go_wp2
    go_ret
    exact ⟨rfl, pw_below_drewN (Below.refl _ _) _⟩
  | false =>
    go_wp2_with fail
    refine (drawStringsOf_calls A0 c0 l0 _ (Kd.C_drewN HR0.out _) H0.out).mono ?_
    rintro e w2 ⟨n, s, rfl, hd, hb2⟩
    obtain ⟨R, b, cnt, tu, sm, tx, HV, hok⟩ := hstar.out n s hd
    have HOK := Aside0.mk hok
    have HV := Aside0.mk HV
    have HB2 := Aside0.mk (below_step (pw_below_drewN (Below.refl w.heap.size w) nd) hb2)
    clear hd hb2 hok hstar
    have hx0 : (w2.alloc (.cells #[.int .i64 n, .int .i64 s] 25 (0, 0))).cell? ⟨w2.heap.size, 0, none⟩ = some (.int .i64 n) := (blk_cell (blk_new w2 _) 0).trans rfl
    have hx1 : (w2.alloc (.cells #[.int .i64 n, .int .i64 s] 25 (0, 0))).cell? ⟨w2.heap.size, 1, none⟩ = some (.int .i64 s) := (blk_cell (blk_new w2 _) 1).trans rfl
    go_wp2_with fail
    clear hx0 hx1
    refine (impl_StringsOf.calls 10000 n s R b _ HV.out.si).mono ?_
    rintro e w3 ⟨v6, rfl, hL6, hb3⟩
    have HB3 := Aside0.mk (below_step (below_alloc HB2.out (.cells #[.int .i64 n, .int .i64 s] 25 (0, 0))) hb3)
    have BS3 := Aside0.mk (blk_below (blk_new w2 (.cells #[.int .i64 n, .int .i64 s] 25 (0, 0))) hb3)
    have HL6 := Aside0.mk (Kd.S_R hL6)
    clear hL6 hb3 HB2
    have hx0 : w3.cell? ⟨w2.heap.size, 0, none⟩ = some (.int .i64 n) := (blk_cell BS3.out 0).trans rfl
    have hx1 : w3.cell? ⟨w2.heap.size, 1, none⟩ = some (.int .i64 s) := (blk_cell BS3.out 1).trans rfl
    go_wp2_with fail
    clear hx0 hx1
    refine (spec_StringsOf.calls 10000 n s R b _ HV.out.ss).mono ?_
    rintro e w4 ⟨v8, rfl, hL8, hb4⟩
    obtain ⟨A6, c6, rfl, hl6, hC6⟩ := Kd.R_reads (Kd.R_below HL6.out hb4)
    obtain ⟨A8, c8, rfl, hl8, hC8⟩ := Kd.R_reads (Kd.S_R hL8)
    have HF := Aside0.mk (fun (W : World) (hb : Below w4.heap.size w4 W) => (⟨Kd.C_below hC6 hb, Kd.C_below hC8 hb, blk_below (blk_below BS3.out hb4) hb, below_step (below_step HB3.out hb4) hb⟩ : Kd.C (Kd.slice 3 (Kd.int .i64)) W A6 R.length R ∧ Kd.C (Kd.slice 3 (Kd.int .i64)) W A8 R.length R ∧ W.heap[w2.heap.size]? = some (.cells #[.int .i64 n, .int .i64 s] 25 (0, 0)) ∧ Below w.heap.size w W))
    have HX := Aside0.mk (Below.refl w4.heap.size w4)
    clear hb4 hL8 hC6 hC8 HL6 HB3 BS3
    have hx0 : w4.cell? ⟨w2.heap.size, 0, none⟩ = some (.int .i64 n) := (blk_cell (HF.out _ HX.out).2.2.1 0).trans rfl
    have hx1 : w4.cell? ⟨w2.heap.size, 1, none⟩ = some (.int .i64 s) := (blk_cell (HF.out _ HX.out).2.2.1 1).trans rfl
    go_wp2_with fail
    clear hx0 hx1
    refine (impl_CountStrings.calls 10000 n s cnt b _ HV.out.ni).mono ?_
    rintro e w5 ⟨rfl, hb⟩
    have HX5 := Aside0.mk (below_step HX.out hb)
    clear hb HX
    have hx0 : w5.cell? ⟨w2.heap.size, 0, none⟩ = some (.int .i64 n) := (blk_cell (HF.out _ HX5.out).2.2.1 0).trans rfl
    have hx1 : w5.cell? ⟨w2.heap.size, 1, none⟩ = some (.int .i64 s) := (blk_cell (HF.out _ HX5.out).2.2.1 1).trans rfl
    go_wp2_with fail
    clear hx0 hx1
    refine (spec_CountStrings.calls 10000 n s cnt b _ HV.out.ns).mono ?_
    rintro e w6 ⟨rfl, hb⟩
    have HX6 := Aside0.mk (below_step HX5.out hb)
    clear hb HX5
    have hx0 : w6.cell? ⟨w2.heap.size, 0, none⟩ = some (.int .i64 n) := (blk_cell (HF.out _ HX6.out).2.2.1 0).trans rfl
    have hx1 : w6.cell? ⟨w2.heap.size, 1, none⟩ = some (.int .i64 s) := (blk_cell (HF.out _ HX6.out).2.2.1 1).trans rfl
    go_wp2_with fail
    clear hx0 hx1
    refine (impl_TurnsOf.calls 10000 n s tu b _ HV.out.ti).mono ?_
    rintro e w7 ⟨rfl, hb⟩
    have HX7 := Aside0.mk (below_step HX6.out hb)
    clear hb HX6
    have hx0 : w7.cell? ⟨w2.heap.size, 0, none⟩ = some (.int .i64 n) := (blk_cell (HF.out _ HX7.out).2.2.1 0).trans rfl
    have hx1 : w7.cell? ⟨w2.heap.size, 1, none⟩ = some (.int .i64 s) := (blk_cell (HF.out _ HX7.out).2.2.1 1).trans rfl
    go_wp2_with fail
    clear hx0 hx1
    refine (spec_TurnsOf.calls 10000 n s tu b _ HV.out.ts).mono ?_
    rintro e w8 ⟨rfl, hb⟩
    have HX8 := Aside0.mk (below_step HX7.out hb)
    clear hb HX7
    have hx0 : w8.cell? ⟨w2.heap.size, 0, none⟩ = some (.int .i64 n) := (blk_cell (HF.out _ HX8.out).2.2.1 0).trans rfl
    have hx1 : w8.cell? ⟨w2.heap.size, 1, none⟩ = some (.int .i64 s) := (blk_cell (HF.out _ HX8.out).2.2.1 1).trans rfl
    go_wp2_with fail
    clear hx0 hx1
    refine (impl_SmallStep.calls n s sm b _ HV.out.mi).mono ?_
    rintro e w9 ⟨rfl, hb⟩
    have HX9 := Aside0.mk (below_step HX8.out hb)
    clear hb HX8
    have hx0 : w9.cell? ⟨w2.heap.size, 0, none⟩ = some (.int .i64 n) := (blk_cell (HF.out _ HX9.out).2.2.1 0).trans rfl
    have hx1 : w9.cell? ⟨w2.heap.size, 1, none⟩ = some (.int .i64 s) := (blk_cell (HF.out _ HX9.out).2.2.1 1).trans rfl
    go_wp2_with fail
    clear hx0 hx1
    refine (spec_SmallStep.calls n s sm b _ HV.out.ms).mono ?_
    rintro e w10 ⟨rfl, hb⟩
    have HX10 := Aside0.mk (below_step HX9.out hb)
    clear hb HX9
    have hx0 : w10.cell? ⟨w2.heap.size, 0, none⟩ = some (.int .i64 n) := (blk_cell (HF.out _ HX10.out).2.2.1 0).trans rfl
    have hx1 : w10.cell? ⟨w2.heap.size, 1, none⟩ = some (.int .i64 s) := (blk_cell (HF.out _ HX10.out).2.2.1 1).trans rfl
    go_wp2_with fail
    clear hx0 hx1
    refine (impl_StarText.calls n s tx b _ HV.out.xi).mono ?_
    rintro e w11 ⟨rfl, hb⟩
    have HX11 := Aside0.mk (below_step HX10.out hb)
    clear hb HX10
    have hx0 : w11.cell? ⟨w2.heap.size, 0, none⟩ = some (.int .i64 n) := (blk_cell (HF.out _ HX11.out).2.2.1 0).trans rfl
    have hx1 : w11.cell? ⟨w2.heap.size, 1, none⟩ = some (.int .i64 s) := (blk_cell (HF.out _ HX11.out).2.2.1 1).trans rfl
    go_wp2_with fail
    clear hx0 hx1
    refine (spec_StarText.calls 10000 n s tx b _ HV.out.xs).mono ?_
    rintro e w12 ⟨rfl, hb⟩
    have HX12 := Aside0.mk (below_step HX11.out hb)
    clear hb HX11
    have hx0 : w12.cell? ⟨w2.heap.size, 0, none⟩ = some (.int .i64 n) := (blk_cell (HF.out _ HX12.out).2.2.1 0).trans rfl
    have hx1 : w12.cell? ⟨w2.heap.size, 1, none⟩ = some (.int .i64 s) := (blk_cell (HF.out _ HX12.out).2.2.1 1).trans rfl
    go_upto_region 14 with (fail)
    clear hx0 hx1
    go_cut [222] from 141 to 221 (fun v222 wx => v222 = .bool false ∧ Aside0 (Below w4.heap.size w4 wx))
    case first =>
      as_aux_lemma =>
      clear HOK hpt hsteps hto hafter htx hread
      have q1 : (b != b) = false := by simp
      have q2 : (cnt != cnt) = false := by simp
      have q3 : (tu != tu) = false := by simp
      have q4 : (sm != sm) = false := by simp
      have q5 : (tx.toList != tx.toList) = false := by simp
      have q7 : (b == b) = true := by simp
      have HXd := Aside0.mk (below_drew1 HX12.out)
      clear HX12
      go_wp2_with fail
      refine start_ (n := 82) (S := fun w' => w'.cell? ⟨w2.heap.size, 0, none⟩ = some (.int .i64 n) ∧ w'.cell? ⟨w2.heap.size, 1, none⟩ = some (.int .i64 s)) (ds := []) #[false, false, false, false, false, false, false, false, false, false, false, false, false, false, false, false, false, false, false, false, false, false, false, false, false, false, false, false, false, false, false, false, false, false, false, false, false, false, false, false, false, false, false, false, false, false, false, false, false, false, false, false, false, false, false, false, false, false, false, false, false, false, false, false, false, false, false, false, false, false, false, false, false, false, false, false, false, false, false, false, false, false] (by kernel_rfl) rfl rfl ⟨(blk_cell (HF.out _ HXd.out).2.2.1 0).trans rfl, (blk_cell (HF.out _ HXd.out).2.2.1 1).trans rfl⟩ (fun hHeld => ?_)
      refine pure_ (i := 0) (N := some 141) (v := ?_) (a' := ?_) #[true, false, false, false, false, false, false, false, false, false, false, false, false, false, false, false, false, false, false, false, false, false, false, false, false, false, false, false, false, false, false, false, false, false, false, false, false, false, false, false, false, false, false, false, false, false, false, false, false, false, false, false, false, false, false, false, false, false, false, false, false, false, false, false, false, false, false, false, false, false, false, false, false, false, false, false, false, false, false, false, false, false] rfl rfl (by kernel_rfl) (fun _ _ _ h => h) (Or.inl ⟨by rfl, ?_⟩) ?_ ?_
      rotate_left
      · intro w'
        go_simp
        with_reducible rfl
      rotate_left
      · simp only [Act.put, List.setIfInBounds_toArray, List.set_cons_zero, List.set_cons_succ, i64_w, i32_w]
        rfl
      refine pure_ (i := 1) (N := some 142) (v := ?_) (a' := ?_) #[true, true, false, false, false, false, false, false, false, false, false, false, false, false, false, false, false, false, false, false, false, false, false, false, false, false, false, false, false, false, false, false, false, false, false, false, false, false, false, false, false, false, false, false, false, false, false, false, false, false, false, false, false, false, false, false, false, false, false, false, false, false, false, false, false, false, false, false, false, false, false, false, false, false, false, false, false, false, false, false, false, false] rfl rfl (by kernel_rfl) (fun _ _ _ h => h) (Or.inl ⟨by rfl, ?_⟩) ?_ ?_
      rotate_left
      · intro w'
        go_simp
        with_reducible rfl
      rotate_left
      · simp only [Act.put, List.setIfInBounds_toArray, List.set_cons_zero, List.set_cons_succ, i64_w, i32_w]
        rfl
      refine pure_ (i := 2) (N := some 143) (v := ?_) (a' := ?_) #[true, true, true, false, false, false, false, false, false, false, false, false, false, false, false, false, false, false, false, false, false, false, false, false, false, false, false, false, false, false, false, false, false, false, false, false, false, false, false, false, false, false, false, false, false, false, false, false, false, false, false, false, false, false, false, false, false, false, false, false, false, false, false, false, false, false, false, false, false, false, false, false, false, false, false, false, false, false, false, false, false, false] rfl rfl (by kernel_rfl) (fun _ _ _ h => h) (Or.inl ⟨by rfl, ?_⟩) ?_ ?_
      rotate_left
      · intro w'
        go_simp
        with_reducible rfl
      rotate_left
      · simp only [Act.put, List.setIfInBounds_toArray, List.set_cons_zero, List.set_cons_succ, i64_w, i32_w]
        rfl
      refine pure_ (i := 3) (N := some 144) (v := ?_) (a' := ?_) #[true, true, true, true, false, false, false, false, false, false, false, false, false, false, false, false, false, false, false, false, false, false, false, false, false, false, false, false, false, false, false, false, false, false, false, false, false, false, false, false, false, false, false, false, false, false, false, false, false, false, false, false, false, false, false, false, false, false, false, false, false, false, false, false, false, false, false, false, false, false, false, false, false, false, false, false, false, false, false, false, false, false] rfl rfl (by kernel_rfl) (fun _ _ _ h => h) (Or.inl ⟨by rfl, ?_⟩) ?_ ?_
      rotate_left
      · intro w'
        go_simp
        with_reducible rfl
      rotate_left
      · simp only [Act.put, List.setIfInBounds_toArray, List.set_cons_zero, List.set_cons_succ, i64_w, i32_w]
        rfl
      refine pure_ (i := 4) (N := some 145) (v := ?_) (a' := ?_) #[true, true, true, true, true, false, false, false, false, false, false, false, false, false, false, false, false, false, false, false, false, false, false, false, false, false, false, false, false, false, false, false, false, false, false, false, false, false, false, false, false, false, false, false, false, false, false, false, false, false, false, false, false, false, false, false, false, false, false, false, false, false, false, false, false, false, false, false, false, false, false, false, false, false, false, false, false, false, false, false, false, false] rfl rfl (by kernel_rfl) (fun _ _ _ h => h) (Or.inl ⟨by rfl, ?_⟩) ?_ ?_
      rotate_left
      · intro w'
        go_simp
        with_reducible rfl
      rotate_left
      · simp only [Act.put, List.setIfInBounds_toArray, List.set_cons_zero, List.set_cons_succ, i64_w, i32_w]
        rfl
      refine pure_ (i := 5) (N := some 146) (v := ?_) (a' := ?_) #[true, true, true, true, true, true, false, false, false, false, false, false, false, false, false, false, false, false, false, false, false, false, false, false, false, false, false, false, false, false, false, false, false, false, false, false, false, false, false, false, false, false, false, false, false, false, false, false, false, false, false, false, false, false, false, false, false, false, false, false, false, false, false, false, false, false, false, false, false, false, false, false, false, false, false, false, false, false, false, false, false, false] rfl rfl (by kernel_rfl) (fun _ _ _ h => h) (Or.inl ⟨by rfl, ?_⟩) ?_ ?_
      rotate_left
      · intro w'
        go_simp
        with_reducible rfl
      rotate_left
      · simp only [Act.put, List.setIfInBounds_toArray, List.set_cons_zero, List.set_cons_succ, i64_w, i32_w]
        rfl
      refine one_ (i := 6) (N := some 147) #[true, true, true, true, true, true, true, false, false, false, false, false, false, false, false, false, false, false, false, false, false, false, false, false, false, false, false, false, false, false, false, false, false, false, false, false, false, false, false, false, false, false, false, false, false, false, false, false, false, false, false, false, false, false, false, false, false, false, false, false, false, false, false, false, false, false, false, false, false, false, false, false, false, false, false, false, false, false, false, false, false, false] rfl rfl (by kernel_rfl) (by decide) (fun K hK => ?_)
      refine goes_ Tryz.func16 (by kernel_rfl) rfl #[.slice A6 R.length c6, .slice A8 R.length c8] (by rfl) rfl rfl (by simp only [List.map_toArray, List.map_cons, List.map_nil]; rfl) ?_
      with_reducible refine (laws_uRows.calls 10000 A6 c6 R A8 c8 R true _ (HF.out _ HXd.out).1 hl6 (HF.out _ HXd.out).2.1 hl8 HV.out.uu).mono ?_
      rintro e w13 ⟨rfl, hb⟩
      refine ⟨_, rfl, ?_⟩
      have HX13 := Aside0.mk (below_step HXd.out hb.below)
      clear hb
      refine hK.out _ _ ⟨(blk_cell (HF.out _ HX13.out).2.2.1 0).trans rfl, (blk_cell (HF.out _ HX13.out).2.2.1 1).trans rfl⟩ (fun hHeld => ?_)
      clear hK K
      refine norm_ (a' := ?_) ?_ ?_
      rotate_left
      · show Act.put _ (some 147) _ = _
        simp only [Act.put, List.setIfInBounds_toArray, List.set_cons_zero, List.set_cons_succ, i64_w, i32_w]
        rfl
      refine pure_ (i := 7) (N := some 148) (v := ?_) (a' := ?_) #[true, true, true, true, true, true, true, true, false, false, false, false, false, false, false, false, false, false, false, false, false, false, false, false, false, false, false, false, false, false, false, false, false, false, false, false, false, false, false, false, false, false, false, false, false, false, false, false, false, false, false, false, false, false, false, false, false, false, false, false, false, false, false, false, false, false, false, false, false, false, false, false, false, false, false, false, false, false, false, false, false, false] rfl rfl (by kernel_rfl) (fun _ _ _ h => h) (Or.inl ⟨by rfl, ?_⟩) ?_ ?_
      rotate_left
      · intro w'
        go_simp
        with_reducible rfl
      rotate_left
      · simp only [Act.put, List.setIfInBounds_toArray, List.set_cons_zero, List.set_cons_succ, i64_w, i32_w]
        rfl
      refine pure_ (i := 8) (N := some 149) (v := ?_) (a' := ?_) #[true, true, true, true, true, true, true, true, true, false, false, false, false, false, false, false, false, false, false, false, false, false, false, false, false, false, false, false, false, false, false, false, false, false, false, false, false, false, false, false, false, false, false, false, false, false, false, false, false, false, false, false, false, false, false, false, false, false, false, false, false, false, false, false, false, false, false, false, false, false, false, false, false, false, false, false, false, false, false, false, false, false] rfl rfl (by kernel_rfl) (fun _ _ _ h => h) (Or.inl ⟨by rfl, ?_⟩) ?_ ?_
      rotate_left
      · intro w'
        go_simp
        with_reducible rfl
      rotate_left
      · simp only [Act.put, List.setIfInBounds_toArray, List.set_cons_zero, List.set_cons_succ, i64_w, i32_w]
        rfl
      refine pure_ (i := 9) (N := some 150) (v := ?_) (a' := ?_) #[true, true, true, true, true, true, true, true, true, true, false, false, false, false, false, false, false, false, false, false, false, false, false, false, false, false, false, false, false, false, false, false, false, false, false, false, false, false, false, false, false, false, false, false, false, false, false, false, false, false, false, false, false, false, false, false, false, false, false, false, false, false, false, false, false, false, false, false, false, false, false, false, false, false, false, false, false, false, false, false, false, false] rfl rfl (by kernel_rfl) (fun _ _ _ h => h) (Or.inl ⟨by rfl, ?_⟩) ?_ ?_
      rotate_left
      · intro w'
        go_simp
        with_reducible rfl
      rotate_left
      · simp only [Act.put, List.setIfInBounds_toArray, List.set_cons_zero, List.set_cons_succ, i64_w, i32_w]
        rfl
      refine pure_ (i := 10) (N := some 151) (v := ?_) (a' := ?_) #[true, true, true, true, true, true, true, true, true, true, true, false, false, false, false, false, false, false, false, false, false, false, false, false, false, false, false, false, false, false, false, false, false, false, false, false, false, false, false, false, false, false, false, false, false, false, false, false, false, false, false, false, false, false, false, false, false, false, false, false, false, false, false, false, false, false, false, false, false, false, false, false, false, false, false, false, false, false, false, false, false, false] rfl rfl (by kernel_rfl) (fun _ _ _ h => h) (Or.inl ⟨by rfl, ?_⟩) ?_ ?_
      rotate_left
      · intro w'
        go_simp
        with_reducible rfl
      rotate_left
      · simp only [Act.put, List.setIfInBounds_toArray, List.set_cons_zero, List.set_cons_succ, i64_w, i32_w]
        rfl
      refine pure_ (i := 11) (N := some 152) (v := ?_) (a' := ?_) #[true, true, true, true, true, true, true, true, true, true, true, true, false, false, false, false, false, false, false, false, false, false, false, false, false, false, false, false, false, false, false, false, false, false, false, false, false, false, false, false, false, false, false, false, false, false, false, false, false, false, false, false, false, false, false, false, false, false, false, false, false, false, false, false, false, false, false, false, false, false, false, false, false, false, false, false, false, false, false, false, false, false] rfl rfl (by kernel_rfl) (fun _ _ _ h => h) (Or.inl ⟨by rfl, ?_⟩) ?_ ?_
      rotate_left
      · intro w'
        go_simp
        with_reducible rfl
      rotate_left
      · simp only [Act.put, List.setIfInBounds_toArray, List.set_cons_zero, List.set_cons_succ, i64_w, i32_w]
        rfl
      refine pure_ (i := 12) (N := some 153) (v := ?_) (a' := ?_) #[true, true, true, true, true, true, true, true, true, true, true, true, true, false, false, false, false, false, false, false, false, false, false, false, false, false, false, false, false, false, false, false, false, false, false, false, false, false, false, false, false, false, false, false, false, false, false, false, false, false, false, false, false, false, false, false, false, false, false, false, false, false, false, false, false, false, false, false, false, false, false, false, false, false, false, false, false, false, false, false, false, false] rfl rfl (by kernel_rfl) (fun _ _ _ h => h) (Or.inl ⟨by rfl, ?_⟩) ?_ ?_
      rotate_left
      · intro w'
        go_simp
        with_reducible rfl
      rotate_left
      · simp only [Act.put, List.setIfInBounds_toArray, List.set_cons_zero, List.set_cons_succ, i64_w, i32_w]
        rfl
      refine pure_ (i := 13) (N := some 154) (v := ?_) (a' := ?_) #[true, true, true, true, true, true, true, true, true, true, true, true, true, true, false, false, false, false, false, false, false, false, false, false, false, false, false, false, false, false, false, false, false, false, false, false, false, false, false, false, false, false, false, false, false, false, false, false, false, false, false, false, false, false, false, false, false, false, false, false, false, false, false, false, false, false, false, false, false, false, false, false, false, false, false, false, false, false, false, false, false, false] rfl rfl (by kernel_rfl) (fun _ _ _ h => h) (Or.inl ⟨by rfl, ?_⟩) ?_ ?_
      rotate_left
      · intro w'
        go_simp
        with_reducible rfl
      rotate_left
      · simp only [Act.put, List.setIfInBounds_toArray, List.set_cons_zero, List.set_cons_succ, i64_w, i32_w]
        rfl
      refine pure_ (i := 14) (N := some 155) (v := ?_) (a' := ?_) #[true, true, true, true, true, true, true, true, true, true, true, true, true, true, true, false, false, false, false, false, false, false, false, false, false, false, false, false, false, false, false, false, false, false, false, false, false, false, false, false, false, false, false, false, false, false, false, false, false, false, false, false, false, false, false, false, false, false, false, false, false, false, false, false, false, false, false, false, false, false, false, false, false, false, false, false, false, false, false, false, false, false] rfl rfl (by kernel_rfl) (fun _ _ _ h => h) (Or.inl ⟨by rfl, ?_⟩) ?_ ?_
      rotate_left
      · intro w'
        go_simp
        with_reducible rfl
      rotate_left
      · simp only [Act.put, List.setIfInBounds_toArray, List.set_cons_zero, List.set_cons_succ, i64_w, i32_w]
        rfl
      refine pure_ (i := 15) (N := some 156) (v := ?_) (a' := ?_) #[true, true, true, true, true, true, true, true, true, true, true, true, true, true, true, true, false, false, false, false, false, false, false, false, false, false, false, false, false, false, false, false, false, false, false, false, false, false, false, false, false, false, false, false, false, false, false, false, false, false, false, false, false, false, false, false, false, false, false, false, false, false, false, false, false, false, false, false, false, false, false, false, false, false, false, false, false, false, false, false, false, false] rfl rfl (by kernel_rfl) (fun _ _ _ h => h) (Or.inl ⟨by rfl, ?_⟩) ?_ ?_
      rotate_left
      · intro w'
        go_simp
        with_reducible rfl
      rotate_left
      · simp only [Act.put, List.setIfInBounds_toArray, List.set_cons_zero, List.set_cons_succ, i64_w, i32_w]
        rfl
      refine pure_ (i := 16) (N := some 157) (v := ?_) (a' := ?_) #[true, true, true, true, true, true, true, true, true, true, true, true, true, true, true, true, true, false, false, false, false, false, false, false, false, false, false, false, false, false, false, false, false, false, false, false, false, false, false, false, false, false, false, false, false, false, false, false, false, false, false, false, false, false, false, false, false, false, false, false, false, false, false, false, false, false, false, false, false, false, false, false, false, false, false, false, false, false, false, false, false, false] rfl rfl (by kernel_rfl) (fun _ _ _ h => h) (Or.inl ⟨by rfl, ?_⟩) ?_ ?_
      rotate_left
      · intro w'
        go_simp
        with_reducible rfl
      rotate_left
      · simp only [Act.put, List.setIfInBounds_toArray, List.set_cons_zero, List.set_cons_succ, i64_w, i32_w]
        rfl
      refine pure_ (i := 17) (N := some 158) (v := ?_) (a' := ?_) #[true, true, true, true, true, true, true, true, true, true, true, true, true, true, true, true, true, true, false, false, false, false, false, false, false, false, false, false, false, false, false, false, false, false, false, false, false, false, false, false, false, false, false, false, false, false, false, false, false, false, false, false, false, false, false, false, false, false, false, false, false, false, false, false, false, false, false, false, false, false, false, false, false, false, false, false, false, false, false, false, false, false] rfl rfl (by kernel_rfl) (fun _ _ _ h => h) (Or.inl ⟨by rfl, ?_⟩) ?_ ?_
      rotate_left
      · intro w'
        go_simp
        with_reducible rfl
      rotate_left
      · simp only [Act.put, List.setIfInBounds_toArray, List.set_cons_zero, List.set_cons_succ, i64_w, i32_w]
        rfl
      refine pure_ (i := 18) (N := some 159) (v := ?_) (a' := ?_) #[true, true, true, true, true, true, true, true, true, true, true, true, true, true, true, true, true, true, true, false, false, false, false, false, false, false, false, false, false, false, false, false, false, false, false, false, false, false, false, false, false, false, false, false, false, false, false, false, false, false, false, false, false, false, false, false, false, false, false, false, false, false, false, false, false, false, false, false, false, false, false, false, false, false, false, false, false, false, false, false, false, false] rfl rfl (by kernel_rfl) (fun _ _ _ h => h) (Or.inl ⟨by rfl, ?_⟩) ?_ ?_
      rotate_left
      · intro w'
        go_simp
        with_reducible rfl
      rotate_left
      · simp only [Act.put, List.setIfInBounds_toArray, List.set_cons_zero, List.set_cons_succ, i64_w, i32_w]
        rfl
      refine pure_ (i := 19) (N := some 160) (v := ?_) (a' := ?_) #[true, true, true, true, true, true, true, true, true, true, true, true, true, true, true, true, true, true, true, true, false, false, false, false, false, false, false, false, false, false, false, false, false, false, false, false, false, false, false, false, false, false, false, false, false, false, false, false, false, false, false, false, false, false, false, false, false, false, false, false, false, false, false, false, false, false, false, false, false, false, false, false, false, false, false, false, false, false, false, false, false, false] rfl rfl (by kernel_rfl) (fun _ _ _ h => h) (Or.inl ⟨by rfl, ?_⟩) ?_ ?_
      rotate_left
      · intro w'
        go_simp
        with_reducible rfl
      rotate_left
      · simp only [Act.put, List.setIfInBounds_toArray, List.set_cons_zero, List.set_cons_succ, i64_w, i32_w]
        rfl
      as_aux_lemma =>
      refine pure_ (i := 20) (N := some 161) (v := ?_) (a' := ?_) #[true, true, true, true, true, true, true, true, true, true, true, true, true, true, true, true, true, true, true, true, true, false, false, false, false, false, false, false, false, false, false, false, false, false, false, false, false, false, false, false, false, false, false, false, false, false, false, false, false, false, false, false, false, false, false, false, false, false, false, false, false, false, false, false, false, false, false, false, false, false, false, false, false, false, false, false, false, false, false, false, false, false] rfl rfl (by kernel_rfl) (fun _ _ _ h => h) (Or.inl ⟨by rfl, ?_⟩) ?_ ?_
      rotate_left
      · intro w'
        go_simp
        with_reducible rfl
      rotate_left
      · simp only [Act.put, List.setIfInBounds_toArray, List.set_cons_zero, List.set_cons_succ, i64_w, i32_w]
        rfl
      refine pure_ (i := 21) (N := some 162) (v := ?_) (a' := ?_) #[true, true, true, true, true, true, true, true, true, true, true, true, true, true, true, true, true, true, true, true, true, true, false, false, false, false, false, false, false, false, false, false, false, false, false, false, false, false, false, false, false, false, false, false, false, false, false, false, false, false, false, false, false, false, false, false, false, false, false, false, false, false, false, false, false, false, false, false, false, false, false, false, false, false, false, false, false, false, false, false, false, false] rfl rfl (by kernel_rfl) (fun _ _ _ h => h) (Or.inl ⟨by rfl, ?_⟩) ?_ ?_
      rotate_left
      · intro w'
        go_simp
        with_reducible rfl
      rotate_left
      · simp only [Act.put, List.setIfInBounds_toArray, List.set_cons_zero, List.set_cons_succ, i64_w, i32_w]
        rfl
      refine pure_ (i := 22) (N := some 163) (v := ?_) (a' := ?_) #[true, true, true, true, true, true, true, true, true, true, true, true, true, true, true, true, true, true, true, true, true, true, true, false, false, false, false, false, false, false, false, false, false, false, false, false, false, false, false, false, false, false, false, false, false, false, false, false, false, false, false, false, false, false, false, false, false, false, false, false, false, false, false, false, false, false, false, false, false, false, false, false, false, false, false, false, false, false, false, false, false, false] rfl rfl (by kernel_rfl) (fun _ _ _ h => h) (Or.inl ⟨by rfl, ?_⟩) ?_ ?_
      rotate_left
      · intro w'
        go_simp
        with_reducible rfl
      rotate_left
      · simp only [Act.put, List.setIfInBounds_toArray, List.set_cons_zero, List.set_cons_succ, i64_w, i32_w]
        rfl
      refine pure_ (i := 23) (N := some 164) (v := ?_) (a' := ?_) #[true, true, true, true, true, true, true, true, true, true, true, true, true, true, true, true, true, true, true, true, true, true, true, true, false, false, false, false, false, false, false, false, false, false, false, false, false, false, false, false, false, false, false, false, false, false, false, false, false, false, false, false, false, false, false, false, false, false, false, false, false, false, false, false, false, false, false, false, false, false, false, false, false, false, false, false, false, false, false, false, false, false] rfl rfl (by kernel_rfl) (fun _ _ _ h => h) (Or.inl ⟨by rfl, ?_⟩) ?_ ?_
      rotate_left
      · intro w'
        go_simp
        with_reducible rfl
      rotate_left
      · simp only [Act.put, List.setIfInBounds_toArray, List.set_cons_zero, List.set_cons_succ, i64_w, i32_w]
        rfl
      refine pure_ (i := 24) (N := some 165) (v := ?_) (a' := ?_) #[true, true, true, true, true, true, true, true, true, true, true, true, true, true, true, true, true, true, true, true, true, true, true, true, true, false, false, false, false, false, false, false, false, false, false, false, false, false, false, false, false, false, false, false, false, false, false, false, false, false, false, false, false, false, false, false, false, false, false, false, false, false, false, false, false, false, false, false, false, false, false, false, false, false, false, false, false, false, false, false, false, false] rfl rfl (by kernel_rfl) (fun _ _ _ h => h) (Or.inl ⟨by rfl, ?_⟩) ?_ ?_
      rotate_left
      · intro w'
        go_simp
        with_reducible rfl
      rotate_left
      · simp only [Act.put, List.setIfInBounds_toArray, List.set_cons_zero, List.set_cons_succ, i64_w, i32_w]
        rfl
      refine pure_ (i := 25) (N := some 166) (v := ?_) (a' := ?_) #[true, true, true, true, true, true, true, true, true, true, true, true, true, true, true, true, true, true, true, true, true, true, true, true, true, true, false, false, false, false, false, false, false, false, false, false, false, false, false, false, false, false, false, false, false, false, false, false, false, false, false, false, false, false, false, false, false, false, false, false, false, false, false, false, false, false, false, false, false, false, false, false, false, false, false, false, false, false, false, false, false, false] rfl rfl (by kernel_rfl) (fun _ _ _ h => h) (Or.inl ⟨by rfl, ?_⟩) ?_ ?_
      rotate_left
      · intro w'
        go_simp
        with_reducible rfl
      rotate_left
      · simp only [Act.put, List.setIfInBounds_toArray, List.set_cons_zero, List.set_cons_succ, i64_w, i32_w]
        rfl
      refine pure_ (i := 26) (N := some 167) (v := ?_) (a' := ?_) #[true, true, true, true, true, true, true, true, true, true, true, true, true, true, true, true, true, true, true, true, true, true, true, true, true, true, true, false, false, false, false, false, false, false, false, false, false, false, false, false, false, false, false, false, false, false, false, false, false, false, false, false, false, false, false, false, false, false, false, false, false, false, false, false, false, false, false, false, false, false, false, false, false, false, false, false, false, false, false, false, false, false] rfl rfl (by kernel_rfl) (fun _ _ _ h => h) (Or.inl ⟨by rfl, ?_⟩) ?_ ?_
      rotate_left
      · intro w'
        go_simp
        with_reducible rfl
      rotate_left
      · simp only [Act.put, List.setIfInBounds_toArray, List.set_cons_zero, List.set_cons_succ, i64_w, i32_w]
        rfl
      refine pure_ (i := 27) (N := some 168) (v := ?_) (a' := ?_) #[true, true, true, true, true, true, true, true, true, true, true, true, true, true, true, true, true, true, true, true, true, true, true, true, true, true, true, true, false, false, false, false, false, false, false, false, false, false, false, false, false, false, false, false, false, false, false, false, false, false, false, false, false, false, false, false, false, false, false, false, false, false, false, false, false, false, false, false, false, false, false, false, false, false, false, false, false, false, false, false, false, false] rfl rfl (by kernel_rfl) (fun _ _ _ h => h) (Or.inl ⟨by rfl, ?_⟩) ?_ ?_
      rotate_left
      · intro w'
        go_simp
        with_reducible rfl
      rotate_left
      · simp only [Act.put, List.setIfInBounds_toArray, List.set_cons_zero, List.set_cons_succ, i64_w, i32_w]
        rfl
      refine pure_ (i := 28) (N := some 169) (v := ?_) (a' := ?_) #[true, true, true, true, true, true, true, true, true, true, true, true, true, true, true, true, true, true, true, true, true, true, true, true, true, true, true, true, true, false, false, false, false, false, false, false, false, false, false, false, false, false, false, false, false, false, false, false, false, false, false, false, false, false, false, false, false, false, false, false, false, false, false, false, false, false, false, false, false, false, false, false, false, false, false, false, false, false, false, false, false, false] rfl rfl (by kernel_rfl) (fun _ _ _ h => h) (Or.inl ⟨by rfl, ?_⟩) ?_ ?_
      rotate_left
      · intro w'
        go_simp
        with_reducible rfl
      rotate_left
      · simp only [Act.put, List.setIfInBounds_toArray, List.set_cons_zero, List.set_cons_succ, i64_w, i32_w]
        rfl
      refine pure_ (i := 29) (N := some 170) (v := ?_) (a' := ?_) #[true, true, true, true, true, true, true, true, true, true, true, true, true, true, true, true, true, true, true, true, true, true, true, true, true, true, true, true, true, true, false, false, false, false, false, false, false, false, false, false, false, false, false, false, false, false, false, false, false, false, false, false, false, false, false, false, false, false, false, false, false, false, false, false, false, false, false, false, false, false, false, false, false, false, false, false, false, false, false, false, false, false] rfl rfl (by kernel_rfl) (fun _ _ _ h => h) (Or.inl ⟨by rfl, ?_⟩) ?_ ?_
      rotate_left
      · intro w'
        go_simp
        with_reducible rfl
      rotate_left
      · simp only [Act.put, List.setIfInBounds_toArray, List.set_cons_zero, List.set_cons_succ, i64_w, i32_w]
        rfl
      refine pure_ (i := 30) (N := some 171) (v := ?_) (a' := ?_) #[true, true, true, true, true, true, true, true, true, true, true, true, true, true, true, true, true, true, true, true, true, true, true, true, true, true, true, true, true, true, true, false, false, false, false, false, false, false, false, false, false, false, false, false, false, false, false, false, false, false, false, false, false, false, false, false, false, false, false, false, false, false, false, false, false, false, false, false, false, false, false, false, false, false, false, false, false, false, false, false, false, false] rfl rfl (by kernel_rfl) (fun _ _ _ h => h) (Or.inl ⟨by rfl, ?_⟩) ?_ ?_
      rotate_left
      · intro w'
        go_simp
        with_reducible rfl
      rotate_left
      · simp only [Act.put, List.setIfInBounds_toArray, List.set_cons_zero, List.set_cons_succ, i64_w, i32_w]
        rfl
      refine pure_ (i := 31) (N := some 172) (v := ?_) (a' := ?_) #[true, true, true, true, true, true, true, true, true, true, true, true, true, true, true, true, true, true, true, true, true, true, true, true, true, true, true, true, true, true, true, true, false, false, false, false, false, false, false, false, false, false, false, false, false, false, false, false, false, false, false, false, false, false, false, false, false, false, false, false, false, false, false, false, false, false, false, false, false, false, false, false, false, false, false, false, false, false, false, false, false, false] rfl rfl (by kernel_rfl) (fun _ _ _ h => h) (Or.inl ⟨by rfl, ?_⟩) ?_ ?_
      rotate_left
      · intro w'
        go_simp
        with_reducible rfl
      rotate_left
      · simp only [Act.put, List.setIfInBounds_toArray, List.set_cons_zero, List.set_cons_succ, i64_w, i32_w]
        rfl
      refine pure_ (i := 32) (N := some 173) (v := ?_) (a' := ?_) #[true, true, true, true, true, true, true, true, true, true, true, true, true, true, true, true, true, true, true, true, true, true, true, true, true, true, true, true, true, true, true, true, true, false, false, false, false, false, false, false, false, false, false, false, false, false, false, false, false, false, false, false, false, false, false, false, false, false, false, false, false, false, false, false, false, false, false, false, false, false, false, false, false, false, false, false, false, false, false, false, false, false] rfl rfl (by kernel_rfl) (fun _ _ _ h => h) (Or.inl ⟨by rfl, ?_⟩) ?_ ?_
      rotate_left
      · intro w'
        go_simp
        with_reducible rfl
      rotate_left
      · simp only [Act.put, List.setIfInBounds_toArray, List.set_cons_zero, List.set_cons_succ, i64_w, i32_w]
        rfl
      refine pure_ (i := 33) (N := some 174) (v := ?_) (a' := ?_) #[true, true, true, true, true, true, true, true, true, true, true, true, true, true, true, true, true, true, true, true, true, true, true, true, true, true, true, true, true, true, true, true, true, true, false, false, false, false, false, false, false, false, false, false, false, false, false, false, false, false, false, false, false, false, false, false, false, false, false, false, false, false, false, false, false, false, false, false, false, false, false, false, false, false, false, false, false, false, false, false, false, false] rfl rfl (by kernel_rfl) (fun _ _ _ h => h) (Or.inl ⟨by rfl, ?_⟩) ?_ ?_
      rotate_left
      · intro w'
        go_simp
        with_reducible rfl
      rotate_left
      · simp only [Act.put, List.setIfInBounds_toArray, List.set_cons_zero, List.set_cons_succ, i64_w, i32_w]
        rfl
      refine pure_ (i := 34) (N := some 175) (v := ?_) (a' := ?_) #[true, true, true, true, true, true, true, true, true, true, true, true, true, true, true, true, true, true, true, true, true, true, true, true, true, true, true, true, true, true, true, true, true, true, true, false, false, false, false, false, false, false, false, false, false, false, false, false, false, false, false, false, false, false, false, false, false, false, false, false, false, false, false, false, false, false, false, false, false, false, false, false, false, false, false, false, false, false, false, false, false, false] rfl rfl (by kernel_rfl) (fun _ _ _ h => h) (Or.inl ⟨by rfl, ?_⟩) ?_ ?_
      rotate_left
      · intro w'
        go_simp
        with_reducible rfl
      rotate_left
      · simp only [Act.put, List.setIfInBounds_toArray, List.set_cons_zero, List.set_cons_succ, i64_w, i32_w]
        rfl
      refine pure_ (i := 35) (N := some 176) (v := ?_) (a' := ?_) #[true, true, true, true, true, true, true, true, true, true, true, true, true, true, true, true, true, true, true, true, true, true, true, true, true, true, true, true, true, true, true, true, true, true, true, true, false, false, false, false, false, false, false, false, false, false, false, false, false, false, false, false, false, false, false, false, false, false, false, false, false, false, false, false, false, false, false, false, false, false, false, false, false, false, false, false, false, false, false, false, false, false] rfl rfl (by kernel_rfl) (fun _ _ _ h => h) (Or.inl ⟨by rfl, ?_⟩) ?_ ?_
      rotate_left
      · intro w'
        go_simp
        with_reducible rfl
      rotate_left
      · simp only [Act.put, List.setIfInBounds_toArray, List.set_cons_zero, List.set_cons_succ, i64_w, i32_w]
        rfl
      as_aux_lemma =>
      refine pure_ (i := 36) (N := some 177) (v := ?_) (a' := ?_) #[true, true, true, true, true, true, true, true, true, true, true, true, true, true, true, true, true, true, true, true, true, true, true, true, true, true, true, true, true, true, true, true, true, true, true, true, true, false, false, false, false, false, false, false, false, false, false, false, false, false, false, false, false, false, false, false, false, false, false, false, false, false, false, false, false, false, false, false, false, false, false, false, false, false, false, false, false, false, false, false, false, false] rfl rfl (by kernel_rfl) (fun _ _ _ h => h) (Or.inl ⟨by rfl, ?_⟩) ?_ ?_
      rotate_left
      · intro w'
        go_simp
        with_reducible rfl
      rotate_left
      · simp only [Act.put, List.setIfInBounds_toArray, List.set_cons_zero, List.set_cons_succ, i64_w, i32_w]
        rfl
      refine pure_ (i := 37) (N := some 178) (v := ?_) (a' := ?_) #[true, true, true, true, true, true, true, true, true, true, true, true, true, true, true, true, true, true, true, true, true, true, true, true, true, true, true, true, true, true, true, true, true, true, true, true, true, true, false, false, false, false, false, false, false, false, false, false, false, false, false, false, false, false, false, false, false, false, false, false, false, false, false, false, false, false, false, false, false, false, false, false, false, false, false, false, false, false, false, false, false, false] rfl rfl (by kernel_rfl) (fun _ _ _ h => h) (Or.inl ⟨by rfl, ?_⟩) ?_ ?_
      rotate_left
      · intro w'
        go_simp
        with_reducible rfl
      rotate_left
      · simp only [Act.put, List.setIfInBounds_toArray, List.set_cons_zero, List.set_cons_succ, i64_w, i32_w]
        rfl
      refine pure_ (i := 38) (N := some 179) (v := ?_) (a' := ?_) #[true, true, true, true, true, true, true, true, true, true, true, true, true, true, true, true, true, true, true, true, true, true, true, true, true, true, true, true, true, true, true, true, true, true, true, true, true, true, true, false, false, false, false, false, false, false, false, false, false, false, false, false, false, false, false, false, false, false, false, false, false, false, false, false, false, false, false, false, false, false, false, false, false, false, false, false, false, false, false, false, false, false] rfl rfl (by kernel_rfl) (fun _ _ _ h => h) (Or.inl ⟨by rfl, ?_⟩) ?_ ?_
      rotate_left
      · intro w'
        go_simp
        with_reducible rfl
      rotate_left
      · simp only [Act.put, List.setIfInBounds_toArray, List.set_cons_zero, List.set_cons_succ, i64_w, i32_w]
        rfl
      refine pure_ (i := 39) (N := some 180) (v := ?_) (a' := ?_) #[true, true, true, true, true, true, true, true, true, true, true, true, true, true, true, true, true, true, true, true, true, true, true, true, true, true, true, true, true, true, true, true, true, true, true, true, true, true, true, true, false, false, false, false, false, false, false, false, false, false, false, false, false, false, false, false, false, false, false, false, false, false, false, false, false, false, false, false, false, false, false, false, false, false, false, false, false, false, false, false, false, false] rfl rfl (by kernel_rfl) (fun _ _ _ h => h) (Or.inl ⟨by rfl, ?_⟩) ?_ ?_
      rotate_left
      · intro w'
        go_simp
        with_reducible rfl
      rotate_left
      · simp only [Act.put, List.setIfInBounds_toArray, List.set_cons_zero, List.set_cons_succ, i64_w, i32_w]
        rfl
      refine pure_ (i := 40) (N := some 181) (v := ?_) (a' := ?_) #[true, true, true, true, true, true, true, true, true, true, true, true, true, true, true, true, true, true, true, true, true, true, true, true, true, true, true, true, true, true, true, true, true, true, true, true, true, true, true, true, true, false, false, false, false, false, false, false, false, false, false, false, false, false, false, false, false, false, false, false, false, false, false, false, false, false, false, false, false, false, false, false, false, false, false, false, false, false, false, false, false, false] rfl rfl (by kernel_rfl) (fun _ _ _ h => h) (Or.inl ⟨by rfl, ?_⟩) ?_ ?_
      rotate_left
      · intro w'
        go_simp
        with_reducible rfl
      rotate_left
      · simp only [Act.put, List.setIfInBounds_toArray, List.set_cons_zero, List.set_cons_succ, i64_w, i32_w]
        rfl
      refine pure_ (i := 41) (N := some 182) (v := ?_) (a' := ?_) #[true, true, true, true, true, true, true, true, true, true, true, true, true, true, true, true, true, true, true, true, true, true, true, true, true, true, true, true, true, true, true, true, true, true, true, true, true, true, true, true, true, true, false, false, false, false, false, false, false, false, false, false, false, false, false, false, false, false, false, false, false, false, false, false, false, false, false, false, false, false, false, false, false, false, false, false, false, false, false, false, false, false] rfl rfl (by kernel_rfl) (fun _ _ _ h => h) (Or.inl ⟨by rfl, ?_⟩) ?_ ?_
      rotate_left
      · intro w'
        go_simp
        with_reducible rfl
      rotate_left
      · simp only [Act.put, List.setIfInBounds_toArray, List.set_cons_zero, List.set_cons_succ, i64_w, i32_w]
        rfl
      refine pure_ (i := 42) (N := some 183) (v := ?_) (a' := ?_) #[true, true, true, true, true, true, true, true, true, true, true, true, true, true, true, true, true, true, true, true, true, true, true, true, true, true, true, true, true, true, true, true, true, true, true, true, true, true, true, true, true, true, true, false, false, false, false, false, false, false, false, false, false, false, false, false, false, false, false, false, false, false, false, false, false, false, false, false, false, false, false, false, false, false, false, false, false, false, false, false, false, false] rfl rfl (by kernel_rfl) (fun _ _ _ h => h) (Or.inl ⟨by rfl, ?_⟩) ?_ ?_
      rotate_left
      · intro w'
        go_simp
        with_reducible rfl
      rotate_left
      · simp only [Act.put, List.setIfInBounds_toArray, List.set_cons_zero, List.set_cons_succ, i64_w, i32_w]
        rfl
      refine pure_ (i := 43) (N := some 184) (v := ?_) (a' := ?_) #[true, true, true, true, true, true, true, true, true, true, true, true, true, true, true, true, true, true, true, true, true, true, true, true, true, true, true, true, true, true, true, true, true, true, true, true, true, true, true, true, true, true, true, true, false, false, false, false, false, false, false, false, false, false, false, false, false, false, false, false, false, false, false, false, false, false, false, false, false, false, false, false, false, false, false, false, false, false, false, false, false, false] rfl rfl (by kernel_rfl) (fun _ _ _ h => h) (Or.inl ⟨by rfl, ?_⟩) ?_ ?_
      rotate_left
      · intro w'
        go_simp
        with_reducible rfl
      rotate_left
      · simp only [Act.put, List.setIfInBounds_toArray, List.set_cons_zero, List.set_cons_succ, i64_w, i32_w]
        rfl
      refine pure_ (i := 44) (N := some 185) (v := ?_) (a' := ?_) #[true, true, true, true, true, true, true, true, true, true, true, true, true, true, true, true, true, true, true, true, true, true, true, true, true, true, true, true, true, true, true, true, true, true, true, true, true, true, true, true, true, true, true, true, true, false, false, false, false, false, false, false, false, false, false, false, false, false, false, false, false, false, false, false, false, false, false, false, false, false, false, false, false, false, false, false, false, false, false, false, false, false] rfl rfl (by kernel_rfl) (fun _ _ _ h => h) (Or.inl ⟨by rfl, ?_⟩) ?_ ?_
      rotate_left
      · intro w'
        go_simp
        with_reducible rfl
      rotate_left
      · simp only [Act.put, List.setIfInBounds_toArray, List.set_cons_zero, List.set_cons_succ, i64_w, i32_w]
        rfl
      refine pure_ (i := 45) (N := some 186) (v := ?_) (a' := ?_) #[true, true, true, true, true, true, true, true, true, true, true, true, true, true, true, true, true, true, true, true, true, true, true, true, true, true, true, true, true, true, true, true, true, true, true, true, true, true, true, true, true, true, true, true, true, true, false, false, false, false, false, false, false, false, false, false, false, false, false, false, false, false, false, false, false, false, false, false, false, false, false, false, false, false, false, false, false, false, false, false, false, false] rfl rfl (by kernel_rfl) (fun _ _ _ h => h) (Or.inl ⟨by rfl, ?_⟩) ?_ ?_
      rotate_left
      · intro w'
        go_simp
        with_reducible rfl
      rotate_left
      · simp only [Act.put, List.setIfInBounds_toArray, List.set_cons_zero, List.set_cons_succ, i64_w, i32_w]
        rfl
      refine pure_ (i := 46) (N := some 187) (v := ?_) (a' := ?_) #[true, true, true, true, true, true, true, true, true, true, true, true, true, true, true, true, true, true, true, true, true, true, true, true, true, true, true, true, true, true, true, true, true, true, true, true, true, true, true, true, true, true, true, true, true, true, true, false, false, false, false, false, false, false, false, false, false, false, false, false, false, false, false, false, false, false, false, false, false, false, false, false, false, false, false, false, false, false, false, false, false, false] rfl rfl (by kernel_rfl) (fun _ _ _ h => h) (Or.inl ⟨by rfl, ?_⟩) ?_ ?_
      rotate_left
      · intro w'
        go_simp
        with_reducible rfl
      rotate_left
      · simp only [Act.put, List.setIfInBounds_toArray, List.set_cons_zero, List.set_cons_succ, i64_w, i32_w]
        rfl
      refine pure_ (i := 47) (N := some 188) (v := ?_) (a' := ?_) #[true, true, true, true, true, true, true, true, true, true, true, true, true, true, true, true, true, true, true, true, true, true, true, true, true, true, true, true, true, true, true, true, true, true, true, true, true, true, true, true, true, true, true, true, true, true, true, true, false, false, false, false, false, false, false, false, false, false, false, false, false, false, false, false, false, false, false, false, false, false, false, false, false, false, false, false, false, false, false, false, false, false] rfl rfl (by kernel_rfl) (fun _ _ _ h => h) (Or.inl ⟨by rfl, ?_⟩) ?_ ?_
      rotate_left
      · intro w'
        go_simp
        with_reducible rfl
      rotate_left
      · simp only [Act.put, List.setIfInBounds_toArray, List.set_cons_zero, List.set_cons_succ, i64_w, i32_w]
        rfl
      refine pure_ (i := 48) (N := some 189) (v := ?_) (a' := ?_) #[true, true, true, true, true, true, true, true, true, true, true, true, true, true, true, true, true, true, true, true, true, true, true, true, true, true, true, true, true, true, true, true, true, true, true, true, true, true, true, true, true, true, true, true, true, true, true, true, true, false, false, false, false, false, false, false, false, false, false, false, false, false, false, false, false, false, false, false, false, false, false, false, false, false, false, false, false, false, false, false, false, false] rfl rfl (by kernel_rfl) (fun _ _ _ h => h) (Or.inl ⟨by rfl, ?_⟩) ?_ ?_
      rotate_left
      · intro w'
        go_simp
        with_reducible rfl
      rotate_left
      · simp only [Act.put, List.setIfInBounds_toArray, List.set_cons_zero, List.set_cons_succ, i64_w, i32_w]
        rfl
      refine pure_ (i := 49) (N := some 190) (v := ?_) (a' := ?_) #[true, true, true, true, true, true, true, true, true, true, true, true, true, true, true, true, true, true, true, true, true, true, true, true, true, true, true, true, true, true, true, true, true, true, true, true, true, true, true, true, true, true, true, true, true, true, true, true, true, true, false, false, false, false, false, false, false, false, false, false, false, false, false, false, false, false, false, false, false, false, false, false, false, false, false, false, false, false, false, false, false, false] rfl rfl (by kernel_rfl) (fun _ _ _ h => h) (Or.inl ⟨by rfl, ?_⟩) ?_ ?_
      rotate_left
      · intro w'
        go_simp
        with_reducible rfl
      rotate_left
      · simp only [Act.put, List.setIfInBounds_toArray, List.set_cons_zero, List.set_cons_succ, i64_w, i32_w]
        rfl
      refine pure_ (i := 50) (N := some 191) (v := ?_) (a' := ?_) #[true, true, true, true, true, true, true, true, true, true, true, true, true, true, true, true, true, true, true, true, true, true, true, true, true, true, true, true, true, true, true, true, true, true, true, true, true, true, true, true, true, true, true, true, true, true, true, true, true, true, true, false, false, false, false, false, false, false, false, false, false, false, false, false, false, false, false, false, false, false, false, false, false, false, false, false, false, false, false, false, false, false] rfl rfl (by kernel_rfl) (fun _ _ _ h => h) (Or.inl ⟨by rfl, ?_⟩) ?_ ?_
      rotate_left
      · intro w'
        go_simp
        with_reducible rfl
      rotate_left
      · simp only [Act.put, List.setIfInBounds_toArray, List.set_cons_zero, List.set_cons_succ, i64_w, i32_w]
        rfl
      refine take_ (i := 51) (N := some 192) (v := ?_) (a' := ?_) #[true, true, true, true, true, true, true, true, true, true, true, true, true, true, true, true, true, true, true, true, true, true, true, true, true, true, true, true, true, true, true, true, true, true, true, true, true, true, true, true, true, true, true, true, true, true, true, true, true, true, true, true, false, false, false, false, false, false, false, false, false, false, false, false, false, false, false, false, false, false, false, false, false, false, false, false, false, false, false, false, false, false] rfl rfl (by kernel_rfl) (fun _ _ _ h => h) (Or.inl ⟨by rfl, ?_⟩) hHeld ?_ ?_
      rotate_left
      · rintro w' ⟨s0, s1⟩
        go_simp
        with_reducible rfl
      rotate_left
      · simp only [Act.put, List.setIfInBounds_toArray, List.set_cons_zero, List.set_cons_succ, i64_w, i32_w]
        rfl
      refine one_ (i := 52) (N := some 193) #[true, true, true, true, true, true, true, true, true, true, true, true, true, true, true, true, true, true, true, true, true, true, true, true, true, true, true, true, true, true, true, true, true, true, true, true, true, true, true, true, true, true, true, true, true, true, true, true, true, true, true, true, true, false, false, false, false, false, false, false, false, false, false, false, false, false, false, false, false, false, false, false, false, false, false, false, false, false, false, false, false, false] rfl rfl (by kernel_rfl) (by decide) (fun K hK => ?_)
      refine goes_ Tryz.func17 (by kernel_rfl) rfl #[.agg #[.int .i64 n, .int .i64 s]] (by rfl) rfl rfl (by simp only [List.map_toArray, List.map_cons, List.map_nil]; rfl) ?_
      with_reducible refine (impl_IsStar.calls n s b _ HV.out.ii).mono ?_
      rintro e w14 ⟨rfl, hb⟩
      refine ⟨_, rfl, ?_⟩
      have HX14 := Aside0.mk (below_step HX13.out hb)
      clear hb
      refine hK.out _ _ ⟨(blk_cell (HF.out _ HX14.out).2.2.1 0).trans rfl, (blk_cell (HF.out _ HX14.out).2.2.1 1).trans rfl⟩ (fun hHeld => ?_)
      clear hK K
      refine norm_ (a' := ?_) ?_ ?_
      rotate_left
      · show Act.put _ (some 193) _ = _
        simp only [Act.put, List.setIfInBounds_toArray, List.set_cons_zero, List.set_cons_succ, i64_w, i32_w]
        rfl
      as_aux_lemma =>
      refine pure_ (i := 53) (N := some 194) (v := ?_) (a' := ?_) #[true, true, true, true, true, true, true, true, true, true, true, true, true, true, true, true, true, true, true, true, true, true, true, true, true, true, true, true, true, true, true, true, true, true, true, true, true, true, true, true, true, true, true, true, true, true, true, true, true, true, true, true, true, true, false, false, false, false, false, false, false, false, false, false, false, false, false, false, false, false, false, false, false, false, false, false, false, false, false, false, false, false] rfl rfl (by kernel_rfl) (fun _ _ _ h => h) (Or.inl ⟨by rfl, ?_⟩) ?_ ?_
      rotate_left
      · intro w'
        go_simp
        with_reducible rfl
      rotate_left
      · simp only [Act.put, List.setIfInBounds_toArray, List.set_cons_zero, List.set_cons_succ, i64_w, i32_w]
        rfl
      refine pure_ (i := 54) (N := some 195) (v := ?_) (a' := ?_) #[true, true, true, true, true, true, true, true, true, true, true, true, true, true, true, true, true, true, true, true, true, true, true, true, true, true, true, true, true, true, true, true, true, true, true, true, true, true, true, true, true, true, true, true, true, true, true, true, true, true, true, true, true, true, true, false, false, false, false, false, false, false, false, false, false, false, false, false, false, false, false, false, false, false, false, false, false, false, false, false, false, false] rfl rfl (by kernel_rfl) (fun _ _ _ h => h) (Or.inl ⟨by rfl, ?_⟩) ?_ ?_
      rotate_left
      · intro w'
        go_simp
        with_reducible rfl
      rotate_left
      · simp only [Act.put, List.setIfInBounds_toArray, List.set_cons_zero, List.set_cons_succ, i64_w, i32_w]
        rfl
      refine pure_ (i := 55) (N := some 196) (v := ?_) (a' := ?_) #[true, true, true, true, true, true, true, true, true, true, true, true, true, true, true, true, true, true, true, true, true, true, true, true, true, true, true, true, true, true, true, true, true, true, true, true, true, true, true, true, true, true, true, true, true, true, true, true, true, true, true, true, true, true, true, true, false, false, false, false, false, false, false, false, false, false, false, false, false, false, false, false, false, false, false, false, false, false, false, false, false, false] rfl rfl (by kernel_rfl) (fun _ _ _ h => h) (Or.inl ⟨by rfl, ?_⟩) ?_ ?_
      rotate_left
      · intro w'
        go_simp
        with_reducible rfl
      rotate_left
      · simp only [Act.put, List.setIfInBounds_toArray, List.set_cons_zero, List.set_cons_succ, i64_w, i32_w]
        rfl
      refine take_ (i := 56) (N := some 197) (v := ?_) (a' := ?_) #[true, true, true, true, true, true, true, true, true, true, true, true, true, true, true, true, true, true, true, true, true, true, true, true, true, true, true, true, true, true, true, true, true, true, true, true, true, true, true, true, true, true, true, true, true, true, true, true, true, true, true, true, true, true, true, true, true, false, false, false, false, false, false, false, false, false, false, false, false, false, false, false, false, false, false, false, false, false, false, false, false, false] rfl rfl (by kernel_rfl) (fun _ _ _ h => h) (Or.inl ⟨by rfl, ?_⟩) hHeld ?_ ?_
      rotate_left
      · rintro w' ⟨s0, s1⟩
        go_simp
        with_reducible rfl
      rotate_left
      · simp only [Act.put, List.setIfInBounds_toArray, List.set_cons_zero, List.set_cons_succ, i64_w, i32_w]
        rfl
      refine take_ (i := 58) (N := some 199) (v := ?_) (a' := ?_) #[true, true, true, true, true, true, true, true, true, true, true, true, true, true, true, true, true, true, true, true, true, true, true, true, true, true, true, true, true, true, true, true, true, true, true, true, true, true, true, true, true, true, true, true, true, true, true, true, true, true, true, true, true, true, true, true, true, false, true, false, false, false, false, false, false, false, false, false, false, false, false, false, false, false, false, false, false, false, false, false, false, false] rfl rfl (by kernel_rfl) (fun _ _ _ h => h) (Or.inl ⟨by rfl, ?_⟩) hHeld ?_ ?_
      rotate_left
      · rintro w' ⟨s0, s1⟩
        go_simp
        with_reducible rfl
      rotate_left
      · simp only [Act.put, List.setIfInBounds_toArray, List.set_cons_zero, List.set_cons_succ, i64_w, i32_w]
        rfl
      refine one_ (i := 57) (N := some 198) #[true, true, true, true, true, true, true, true, true, true, true, true, true, true, true, true, true, true, true, true, true, true, true, true, true, true, true, true, true, true, true, true, true, true, true, true, true, true, true, true, true, true, true, true, true, true, true, true, true, true, true, true, true, true, true, true, true, true, true, false, false, false, false, false, false, false, false, false, false, false, false, false, false, false, false, false, false, false, false, false, false, false] rfl rfl (by kernel_rfl) (by decide) (fun K hK => ?_)
      refine goes_ Tryz.func17 (by kernel_rfl) rfl #[.agg #[.int .i64 n, .int .i64 s]] (by rfl) rfl rfl (by simp only [List.map_toArray, List.map_cons, List.map_nil]; rfl) ?_
      with_reducible refine (impl_IsStar.calls n s b _ HV.out.ii).mono ?_
      rintro e w15 ⟨rfl, hb⟩
      refine ⟨_, rfl, ?_⟩
      have HX15 := Aside0.mk (below_step HX14.out hb)
      clear hb
      refine hK.out _ _ ⟨(blk_cell (HF.out _ HX15.out).2.2.1 0).trans rfl, (blk_cell (HF.out _ HX15.out).2.2.1 1).trans rfl⟩ (fun hHeld => ?_)
      clear hK K
      refine norm_ (a' := ?_) ?_ ?_
      rotate_left
      · show Act.put _ (some 198) _ = _
        simp only [Act.put, List.setIfInBounds_toArray, List.set_cons_zero, List.set_cons_succ, i64_w, i32_w]
        rfl
      refine one_ (i := 59) (N := some 200) #[true, true, true, true, true, true, true, true, true, true, true, true, true, true, true, true, true, true, true, true, true, true, true, true, true, true, true, true, true, true, true, true, true, true, true, true, true, true, true, true, true, true, true, true, true, true, true, true, true, true, true, true, true, true, true, true, true, true, true, true, false, false, false, false, false, false, false, false, false, false, false, false, false, false, false, false, false, false, false, false, false, false] rfl rfl (by kernel_rfl) (by decide) (fun K hK => ?_)
      refine goes_ Tryz.func18 (by kernel_rfl) rfl #[.agg #[.int .i64 n, .int .i64 s]] (by rfl) rfl rfl (by simp only [List.map_toArray, List.map_cons, List.map_nil]; rfl) ?_
      with_reducible refine (spec_IsStar.calls n s b _ HV.out.is).mono ?_
      rintro e w16 ⟨rfl, hb⟩
      refine ⟨_, rfl, ?_⟩
      have HX16 := Aside0.mk (below_step HX15.out hb)
      clear hb
      refine hK.out _ _ ⟨(blk_cell (HF.out _ HX16.out).2.2.1 0).trans rfl, (blk_cell (HF.out _ HX16.out).2.2.1 1).trans rfl⟩ (fun hHeld => ?_)
      clear hK K
      refine norm_ (a' := ?_) ?_ ?_
      rotate_left
      · show Act.put _ (some 200) _ = _
        simp only [Act.put, List.setIfInBounds_toArray, List.set_cons_zero, List.set_cons_succ, i64_w, i32_w]
        rfl
      refine pure_ (i := 60) (N := some 201) (v := ?_) (a' := ?_) #[true, true, true, true, true, true, true, true, true, true, true, true, true, true, true, true, true, true, true, true, true, true, true, true, true, true, true, true, true, true, true, true, true, true, true, true, true, true, true, true, true, true, true, true, true, true, true, true, true, true, true, true, true, true, true, true, true, true, true, true, true, false, false, false, false, false, false, false, false, false, false, false, false, false, false, false, false, false, false, false, false, false] rfl rfl (by kernel_rfl) (fun _ _ _ h => h) (Or.inl ⟨by rfl, ?_⟩) ?_ ?_
      rotate_left
      · intro w'
        go_simp
        with_reducible rfl
      rotate_left
      · simp only [Act.put, List.setIfInBounds_toArray, List.set_cons_zero, List.set_cons_succ, i64_w, i32_w]
        rfl
      refine pure_ (i := 61) (N := some 202) (v := ?_) (a' := ?_) #[true, true, true, true, true, true, true, true, true, true, true, true, true, true, true, true, true, true, true, true, true, true, true, true, true, true, true, true, true, true, true, true, true, true, true, true, true, true, true, true, true, true, true, true, true, true, true, true, true, true, true, true, true, true, true, true, true, true, true, true, true, true, false, false, false, false, false, false, false, false, false, false, false, false, false, false, false, false, false, false, false, false] rfl rfl (by kernel_rfl) (fun _ _ _ h => h) (Or.inl ⟨by rfl, ?_⟩) ?_ ?_
      rotate_left
      · intro w'
        go_simp
        with_reducible rfl
      rotate_left
      · simp only [Act.put, List.setIfInBounds_toArray, List.set_cons_zero, List.set_cons_succ, i64_w, i32_w]
        rfl
      refine pure_ (i := 62) (N := some 203) (v := ?_) (a' := ?_) #[true, true, true, true, true, true, true, true, true, true, true, true, true, true, true, true, true, true, true, true, true, true, true, true, true, true, true, true, true, true, true, true, true, true, true, true, true, true, true, true, true, true, true, true, true, true, true, true, true, true, true, true, true, true, true, true, true, true, true, true, true, true, true, false, false, false, false, false, false, false, false, false, false, false, false, false, false, false, false, false, false, false] rfl rfl (by kernel_rfl) (fun _ _ _ h => h) (Or.inl ⟨by rfl, ?_⟩) ?_ ?_
      rotate_left
      · intro w'
        go_simp
        with_reducible rfl
      rotate_left
      · simp only [Act.put, List.setIfInBounds_toArray, List.set_cons_zero, List.set_cons_succ, i64_w, i32_w]
        rfl
      refine pure_ (i := 63) (N := some 204) (v := ?_) (a' := ?_) #[true, true, true, true, true, true, true, true, true, true, true, true, true, true, true, true, true, true, true, true, true, true, true, true, true, true, true, true, true, true, true, true, true, true, true, true, true, true, true, true, true, true, true, true, true, true, true, true, true, true, true, true, true, true, true, true, true, true, true, true, true, true, true, true, false, false, false, false, false, false, false, false, false, false, false, false, false, false, false, false, false, false] rfl rfl (by kernel_rfl) (fun _ _ _ h => h) (Or.inl ⟨by rfl, ?_⟩) ?_ ?_
      rotate_left
      · intro w'
        go_simp
        with_reducible rfl
      rotate_left
      · simp only [Act.put, List.setIfInBounds_toArray, List.set_cons_zero, List.set_cons_succ, i64_w, i32_w]
        rfl
      refine pure_ (i := 64) (N := some 205) (v := ?_) (a' := ?_) #[true, true, true, true, true, true, true, true, true, true, true, true, true, true, true, true, true, true, true, true, true, true, true, true, true, true, true, true, true, true, true, true, true, true, true, true, true, true, true, true, true, true, true, true, true, true, true, true, true, true, true, true, true, true, true, true, true, true, true, true, true, true, true, true, true, false, false, false, false, false, false, false, false, false, false, false, false, false, false, false, false, false] rfl rfl (by kernel_rfl) (fun _ _ _ h => h) (Or.inl ⟨by rfl, ?_⟩) ?_ ?_
      rotate_left
      · intro w'
        go_simp
        with_reducible rfl
      rotate_left
      · simp only [Act.put, List.setIfInBounds_toArray, List.set_cons_zero, List.set_cons_succ, i64_w, i32_w]
        rfl
      refine pure_ (i := 65) (N := some 206) (v := ?_) (a' := ?_) #[true, true, true, true, true, true, true, true, true, true, true, true, true, true, true, true, true, true, true, true, true, true, true, true, true, true, true, true, true, true, true, true, true, true, true, true, true, true, true, true, true, true, true, true, true, true, true, true, true, true, true, true, true, true, true, true, true, true, true, true, true, true, true, true, true, true, false, false, false, false, false, false, false, false, false, false, false, false, false, false, false, false] rfl rfl (by kernel_rfl) (fun _ _ _ h => h) (Or.inl ⟨by rfl, ?_⟩) ?_ ?_
      rotate_left
      · intro w'
        go_simp
        with_reducible rfl
      rotate_left
      · simp only [Act.put, List.setIfInBounds_toArray, List.set_cons_zero, List.set_cons_succ, i64_w, i32_w]
        rfl
      as_aux_lemma =>
      refine pure_ (i := 66) (N := some 207) (v := ?_) (a' := ?_) #[true, true, true, true, true, true, true, true, true, true, true, true, true, true, true, true, true, true, true, true, true, true, true, true, true, true, true, true, true, true, true, true, true, true, true, true, true, true, true, true, true, true, true, true, true, true, true, true, true, true, true, true, true, true, true, true, true, true, true, true, true, true, true, true, true, true, true, false, false, false, false, false, false, false, false, false, false, false, false, false, false, false] rfl rfl (by kernel_rfl) (fun _ _ _ h => h) (Or.inl ⟨by rfl, ?_⟩) ?_ ?_
      rotate_left
      · intro w'
        go_simp
        with_reducible rfl
      rotate_left
      · simp only [Act.put, List.setIfInBounds_toArray, List.set_cons_zero, List.set_cons_succ, i64_w, i32_w]
        rfl
      refine pure_ (i := 67) (N := some 208) (v := ?_) (a' := ?_) #[true, true, true, true, true, true, true, true, true, true, true, true, true, true, true, true, true, true, true, true, true, true, true, true, true, true, true, true, true, true, true, true, true, true, true, true, true, true, true, true, true, true, true, true, true, true, true, true, true, true, true, true, true, true, true, true, true, true, true, true, true, true, true, true, true, true, true, true, false, false, false, false, false, false, false, false, false, false, false, false, false, false] rfl rfl (by kernel_rfl) (fun _ _ _ h => h) (Or.inl ⟨by rfl, ?_⟩) ?_ ?_
      rotate_left
      · intro w'
        go_simp
        with_reducible rfl
      rotate_left
      · simp only [Act.put, List.setIfInBounds_toArray, List.set_cons_zero, List.set_cons_succ, i64_w, i32_w]
        rfl
      refine pure_ (i := 68) (N := some 209) (v := ?_) (a' := ?_) #[true, true, true, true, true, true, true, true, true, true, true, true, true, true, true, true, true, true, true, true, true, true, true, true, true, true, true, true, true, true, true, true, true, true, true, true, true, true, true, true, true, true, true, true, true, true, true, true, true, true, true, true, true, true, true, true, true, true, true, true, true, true, true, true, true, true, true, true, true, false, false, false, false, false, false, false, false, false, false, false, false, false] rfl rfl (by kernel_rfl) (fun _ _ _ h => h) (Or.inl ⟨by rfl, ?_⟩) ?_ ?_
      rotate_left
      · intro w'
        go_simp
        with_reducible rfl
      rotate_left
      · simp only [Act.put, List.setIfInBounds_toArray, List.set_cons_zero, List.set_cons_succ, i64_w, i32_w]
        rfl
      refine pure_ (i := 69) (N := some 210) (v := ?_) (a' := ?_) #[true, true, true, true, true, true, true, true, true, true, true, true, true, true, true, true, true, true, true, true, true, true, true, true, true, true, true, true, true, true, true, true, true, true, true, true, true, true, true, true, true, true, true, true, true, true, true, true, true, true, true, true, true, true, true, true, true, true, true, true, true, true, true, true, true, true, true, true, true, true, false, false, false, false, false, false, false, false, false, false, false, false] rfl rfl (by kernel_rfl) (fun _ _ _ h => h) (Or.inl ⟨by rfl, ?_⟩) ?_ ?_
      rotate_left
      · intro w'
        go_simp
        with_reducible rfl
      rotate_left
      · simp only [Act.put, List.setIfInBounds_toArray, List.set_cons_zero, List.set_cons_succ, i64_w, i32_w]
        rfl
      refine pure_ (i := 70) (N := some 211) (v := ?_) (a' := ?_) #[true, true, true, true, true, true, true, true, true, true, true, true, true, true, true, true, true, true, true, true, true, true, true, true, true, true, true, true, true, true, true, true, true, true, true, true, true, true, true, true, true, true, true, true, true, true, true, true, true, true, true, true, true, true, true, true, true, true, true, true, true, true, true, true, true, true, true, true, true, true, true, false, false, false, false, false, false, false, false, false, false, false] rfl rfl (by kernel_rfl) (fun _ _ _ h => h) (Or.inl ⟨by rfl, ?_⟩) ?_ ?_
      rotate_left
      · intro w'
        go_simp
        with_reducible rfl
      rotate_left
      · simp only [Act.put, List.setIfInBounds_toArray, List.set_cons_zero, List.set_cons_succ, i64_w, i32_w]
        rfl
      refine pure_ (i := 71) (N := some 212) (v := ?_) (a' := ?_) #[true, true, true, true, true, true, true, true, true, true, true, true, true, true, true, true, true, true, true, true, true, true, true, true, true, true, true, true, true, true, true, true, true, true, true, true, true, true, true, true, true, true, true, true, true, true, true, true, true, true, true, true, true, true, true, true, true, true, true, true, true, true, true, true, true, true, true, true, true, true, true, true, false, false, false, false, false, false, false, false, false, false] rfl rfl (by kernel_rfl) (fun _ _ _ h => h) (Or.inl ⟨by rfl, ?_⟩) ?_ ?_
      rotate_left
      · intro w'
        go_simp
        with_reducible rfl
      rotate_left
      · simp only [Act.put, List.setIfInBounds_toArray, List.set_cons_zero, List.set_cons_succ, i64_w, i32_w]
        rfl
      refine pure_ (i := 72) (N := some 213) (v := ?_) (a' := ?_) #[true, true, true, true, true, true, true, true, true, true, true, true, true, true, true, true, true, true, true, true, true, true, true, true, true, true, true, true, true, true, true, true, true, true, true, true, true, true, true, true, true, true, true, true, true, true, true, true, true, true, true, true, true, true, true, true, true, true, true, true, true, true, true, true, true, true, true, true, true, true, true, true, true, false, false, false, false, false, false, false, false, false] rfl rfl (by kernel_rfl) (fun _ _ _ h => h) (Or.inl ⟨by rfl, ?_⟩) ?_ ?_
      rotate_left
      · intro w'
        go_simp
        with_reducible rfl
      rotate_left
      · simp only [Act.put, List.setIfInBounds_toArray, List.set_cons_zero, List.set_cons_succ, i64_w, i32_w]
        rfl
      refine pure_ (i := 73) (N := some 214) (v := ?_) (a' := ?_) #[true, true, true, true, true, true, true, true, true, true, true, true, true, true, true, true, true, true, true, true, true, true, true, true, true, true, true, true, true, true, true, true, true, true, true, true, true, true, true, true, true, true, true, true, true, true, true, true, true, true, true, true, true, true, true, true, true, true, true, true, true, true, true, true, true, true, true, true, true, true, true, true, true, true, false, false, false, false, false, false, false, false] rfl rfl (by kernel_rfl) (fun _ _ _ h => h) (Or.inl ⟨by rfl, ?_⟩) ?_ ?_
      rotate_left
      · intro w'
        go_simp
        with_reducible rfl
      rotate_left
      · simp only [Act.put, List.setIfInBounds_toArray, List.set_cons_zero, List.set_cons_succ, i64_w, i32_w]
        rfl
      refine pure_ (i := 74) (N := some 215) (v := ?_) (a' := ?_) #[true, true, true, true, true, true, true, true, true, true, true, true, true, true, true, true, true, true, true, true, true, true, true, true, true, true, true, true, true, true, true, true, true, true, true, true, true, true, true, true, true, true, true, true, true, true, true, true, true, true, true, true, true, true, true, true, true, true, true, true, true, true, true, true, true, true, true, true, true, true, true, true, true, true, true, false, false, false, false, false, false, false] rfl rfl (by kernel_rfl) (fun _ _ _ h => h) (Or.inl ⟨by rfl, ?_⟩) ?_ ?_
      rotate_left
      · intro w'
        go_simp
        with_reducible rfl
      rotate_left
      · simp only [Act.put, List.setIfInBounds_toArray, List.set_cons_zero, List.set_cons_succ, i64_w, i32_w]
        rfl
      refine pure_ (i := 75) (N := some 216) (v := ?_) (a' := ?_) #[true, true, true, true, true, true, true, true, true, true, true, true, true, true, true, true, true, true, true, true, true, true, true, true, true, true, true, true, true, true, true, true, true, true, true, true, true, true, true, true, true, true, true, true, true, true, true, true, true, true, true, true, true, true, true, true, true, true, true, true, true, true, true, true, true, true, true, true, true, true, true, true, true, true, true, true, false, false, false, false, false, false] rfl rfl (by kernel_rfl) (fun _ _ _ h => h) (Or.inl ⟨by rfl, ?_⟩) ?_ ?_
      rotate_left
      · intro w'
        go_simp
        with_reducible rfl
      rotate_left
      · simp only [Act.put, List.setIfInBounds_toArray, List.set_cons_zero, List.set_cons_succ, i64_w, i32_w]
        rfl
      refine pure_ (i := 76) (N := some 217) (v := ?_) (a' := ?_) #[true, true, true, true, true, true, true, true, true, true, true, true, true, true, true, true, true, true, true, true, true, true, true, true, true, true, true, true, true, true, true, true, true, true, true, true, true, true, true, true, true, true, true, true, true, true, true, true, true, true, true, true, true, true, true, true, true, true, true, true, true, true, true, true, true, true, true, true, true, true, true, true, true, true, true, true, true, false, false, false, false, false] rfl rfl (by kernel_rfl) (fun _ _ _ h => h) (Or.inl ⟨by rfl, ?_⟩) ?_ ?_
      rotate_left
      · intro w'
        go_simp
        with_reducible rfl
      rotate_left
      · simp only [Act.put, List.setIfInBounds_toArray, List.set_cons_zero, List.set_cons_succ, i64_w, i32_w]
        rfl
      refine pure_ (i := 77) (N := some 218) (v := ?_) (a' := ?_) #[true, true, true, true, true, true, true, true, true, true, true, true, true, true, true, true, true, true, true, true, true, true, true, true, true, true, true, true, true, true, true, true, true, true, true, true, true, true, true, true, true, true, true, true, true, true, true, true, true, true, true, true, true, true, true, true, true, true, true, true, true, true, true, true, true, true, true, true, true, true, true, true, true, true, true, true, true, true, false, false, false, false] rfl rfl (by kernel_rfl) (fun _ _ _ h => h) (Or.inl ⟨by rfl, ?_⟩) ?_ ?_
      rotate_left
      · intro w'
        go_simp
        with_reducible rfl
      rotate_left
      · simp only [Act.put, List.setIfInBounds_toArray, List.set_cons_zero, List.set_cons_succ, i64_w, i32_w]
        rfl
      refine pure_ (i := 78) (N := some 219) (v := ?_) (a' := ?_) #[true, true, true, true, true, true, true, true, true, true, true, true, true, true, true, true, true, true, true, true, true, true, true, true, true, true, true, true, true, true, true, true, true, true, true, true, true, true, true, true, true, true, true, true, true, true, true, true, true, true, true, true, true, true, true, true, true, true, true, true, true, true, true, true, true, true, true, true, true, true, true, true, true, true, true, true, true, true, true, false, false, false] rfl rfl (by kernel_rfl) (fun _ _ _ h => h) (Or.inl ⟨by rfl, ?_⟩) ?_ ?_
      rotate_left
      · intro w'
        go_simp
        with_reducible rfl
      rotate_left
      · simp only [Act.put, List.setIfInBounds_toArray, List.set_cons_zero, List.set_cons_succ, i64_w, i32_w]
        rfl
      refine pure_ (i := 79) (N := some 220) (v := ?_) (a' := ?_) #[true, true, true, true, true, true, true, true, true, true, true, true, true, true, true, true, true, true, true, true, true, true, true, true, true, true, true, true, true, true, true, true, true, true, true, true, true, true, true, true, true, true, true, true, true, true, true, true, true, true, true, true, true, true, true, true, true, true, true, true, true, true, true, true, true, true, true, true, true, true, true, true, true, true, true, true, true, true, true, true, false, false] rfl rfl (by kernel_rfl) (fun _ _ _ h => h) (Or.inl ⟨by rfl, ?_⟩) ?_ ?_
      rotate_left
      · intro w'
        go_simp
        with_reducible rfl
      rotate_left
      · simp only [Act.put, List.setIfInBounds_toArray, List.set_cons_zero, List.set_cons_succ, i64_w, i32_w]
        rfl
      refine pure_ (i := 80) (N := some 221) (v := ?_) (a' := ?_) #[true, true, true, true, true, true, true, true, true, true, true, true, true, true, true, true, true, true, true, true, true, true, true, true, true, true, true, true, true, true, true, true, true, true, true, true, true, true, true, true, true, true, true, true, true, true, true, true, true, true, true, true, true, true, true, true, true, true, true, true, true, true, true, true, true, true, true, true, true, true, true, true, true, true, true, true, true, true, true, true, true, false] rfl rfl (by kernel_rfl) (fun _ _ _ h => h) (Or.inl ⟨by rfl, ?_⟩) ?_ ?_
      rotate_left
      · intro w'
        go_simp
        with_reducible rfl
      rotate_left
      · simp only [Act.put, List.setIfInBounds_toArray, List.set_cons_zero, List.set_cons_succ, i64_w, i32_w]
        rfl
      refine pure_ (i := 81) (N := some 222) (v := ?_) (a' := ?_) #[true, true, true, true, true, true, true, true, true, true, true, true, true, true, true, true, true, true, true, true, true, true, true, true, true, true, true, true, true, true, true, true, true, true, true, true, true, true, true, true, true, true, true, true, true, true, true, true, true, true, true, true, true, true, true, true, true, true, true, true, true, true, true, true, true, true, true, true, true, true, true, true, true, true, true, true, true, true, true, true, true, true] rfl rfl (by kernel_rfl) (fun _ _ _ h => h) (Or.inl ⟨by rfl, ?_⟩) ?_ ?_
      rotate_left
      · intro w'
        go_simp
        with_reducible rfl
      rotate_left
      · simp only [Act.put, List.setIfInBounds_toArray, List.set_cons_zero, List.set_cons_succ, i64_w, i32_w]
        rfl
      refine done_ (by kernel_rfl) ?_
      go_wp2_with fail
      go_meet
      case rel => exact ⟨rfl, HX16⟩
    case rest =>
      as_aux_lemma =>
      obtain ⟨rfl, HX16⟩ := hcut
      go_upto_if 223 with (fail)
      go_cut [26, 27, 28, 29, 30, 31, 32, 33, 34, 35, 36, 37, 38, 39] from 224 to 368 (fun _ _ _ _ _ _ _ _ _ _ _ _ _ _ wx => Aside0 (Below w4.heap.size w4 wx))
      case first =>
        as_aux_lemma =>
        clear hpt hsteps hto hafter htx hread
        cases b with
        | false =>
          go_wp2_with fail
          go_meet
          case rel => exact HX16
        | true =>
          have OK := Aside0.mk (HOK.out rfl)
          clear HOK HX12
          obtain ⟨g1, g2, g3, g4⟩ := OK.out.hn
          go_wp2_with fail
          refine (impl_ParseStar.calls tx n s true _ (HG.out.below (HF.out _ HX16.out).2.2.2) OK.out.pa).mono ?_
          rintro e w17 ⟨rfl, hb⟩
          have HX17 := Aside0.mk (below_step HX16.out hb)
          clear hb HX16
          have HX18 := Aside0.mk (below_alloc HX17.out (.cells #[.int .i64 n, .int .i64 s] 25 (0, 0)))
          have HF2 := Aside0.mk (fun (W : World) (hb : Below (w17.alloc (.cells #[.int .i64 n, .int .i64 s] 25 (0, 0))).heap.size (w17.alloc (.cells #[.int .i64 n, .int .i64 s] 25 (0, 0))) W) => (⟨(HF.out _ (below_step HX18.out hb)).1, (HF.out _ (below_step HX18.out hb)).2.2.1, blk_below (blk_new w17 (.cells #[.int .i64 n, .int .i64 s] 25 (0, 0))) hb, below_step HX18.out hb⟩ : Kd.C (Kd.slice 3 (Kd.int .i64)) W A6 R.length R ∧ W.heap[w2.heap.size]? = some (.cells #[.int .i64 n, .int .i64 s] 25 (0, 0)) ∧ W.heap[w17.heap.size]? = some (.cells #[.int .i64 n, .int .i64 s] 25 (0, 0)) ∧ Below w4.heap.size w4 W))
          have hx0 : (w17.alloc (.cells #[.int .i64 n, .int .i64 s] 25 (0, 0))).cell? ⟨w2.heap.size, 0, none⟩ = some (.int .i64 n) := (blk_cell (HF.out _ HX18.out).2.2.1 0).trans rfl
          have hx1 : (w17.alloc (.cells #[.int .i64 n, .int .i64 s] 25 (0, 0))).cell? ⟨w2.heap.size, 1, none⟩ = some (.int .i64 s) := (blk_cell (HF.out _ HX18.out).2.2.1 1).trans rfl
          obtain ⟨N, hN⟩ : ∃ N, N = n.toNat := ⟨_, rfl⟩
          have HN := Aside0.mk hN
          clear hN
          have HXm := Aside0.mk (Below.refl (w17.alloc (.cells #[.int .i64 n, .int .i64 s] 25 (0, 0))).heap.size (w17.alloc (.cells #[.int .i64 n, .int .i64 s] 25 (0, 0))))
          go_wp2_with (first | ((with_reducible refine gate_dst (N := 231) rfl ?_); (try (refine gate_guard (by rfl) ?_; dsimp only)); refine Kd.R_make Kd.bool (w0 := (w17.alloc (.cells #[.int .i64 n, .int .i64 s] 25 (0, 0)))) (w17.alloc (.cells #[.int .i64 n, .int .i64 s] 25 (0, 0))).heap.size 4 rfl (N := 231) rfl 38 _ _ rfl n rfl rfl Tryz.underlying38 (.bool false) 1 infoBool rfl (by decide) (by omega) false (ok := fun _ => True) (okp := fun _ => True) rfl (fun _ hk => hk) trivial (by omega) (by omega) HXm.out (Nat.le_refl _) ?_; intro vS w19 ho hb hg_ hnew_; clear hg_ hnew_; rw [← HN.out, ← flagsL_nil] at ho; have HO := Aside0.mk ho; have HX19 := Aside0.mk hb; clear ho hb HXm))
          clear hx0 hx1 HX18 HX17
          generalize w17.alloc (.cells #[.int .i64 n, .int .i64 s] 25 (0, 0)) = w18 at HF2 HO HX19 ⊢
          obtain ⟨br, hbr⟩ : ∃ br, w17.heap.size = br := ⟨_, rfl⟩
          rw [hbr] at HF2 ⊢
          clear hbr
          go_loopg [29, 234] R.length (fun gg v29 v234 wr => ∃ (i P : Nat), v234 = .int .i64 (i : Int) ∧ v29 = .int .i64 (P : Int) ∧ Aside0 (P = (R.take i).flatten.length) ∧ i ≤ R.length ∧ R.length - i ≤ gg ∧ Aside0 (Kd.R Kd.bool 4 wr w18.heap.size (fun _ => True) vS (flagsL N (R.take i).flatten)) ∧ Aside0 (Below w18.heap.size w18 wr))
          case atStart => exact ⟨0, 0, rfl, rfl, ⟨rfl⟩, Nat.zero_le _, by omega, HO, HX19⟩
          case round =>
            clear HO HX19
            obtain ⟨i, P, rfl, rfl, HP, hi, hmi, HO, HX20⟩ := hrel
            by_cases hir : i < R.length
            · have c1b : decide ((i : Int) < (R.length : Int)) = true := decide_eq_true (by omega)
              obtain ⟨ad6, AR, cR, hA6, m0w, hle0, hC0⟩ := at_L2 (HF2.out _ (Below.refl _ _)).1 (i : Int) (by omega) (by omega)
              subst hA6
              rw [Int.toNat_natCast] at m0w
              have hro := OK.out.row i hir
              have htf := take_rdL R i hir
              have hnt := not_told R OK.out.nd i
              obtain ⟨row, hrow⟩ : ∃ row, rd_L2 R (i : Int) = row := ⟨_, rfl⟩
              rw [hrow] at m0w hle0 hC0 hro htf hnt
              have m0 : wr.cell? (ad6.add i) = some (.slice AR row.length cR) := (HX20.out.cell (World.block_lt_of_cell? _ _ m0w)).trans m0w
              have HTF := Aside0.mk htf
              have HRO := Aside0.mk hro
              have HNT := Aside0.mk (fun j => hnt j hir)
              obtain ⟨hl1_, hl2_⟩ := hro.len
              obtain ⟨a0, e0, z0⟩ := Kd.at_int hC0 0 (by omega) (by omega)
              subst e0
              simp only [show (0 : Int).toNat = 0 from rfl, Addr.add_zero'] at z0
              rw [hro.first] at z0
              have HZ0 := Aside0.mk (fun (W : World) (hb : Below w18.heap.size w18 W) => (hb.cell (World.block_lt_of_cell? _ _ z0)).trans z0)
              have HCR := Aside0.mk hC0
              clear htf hrow hro hnt hC0 m0w z0
              have z0 := HZ0.out _ HX20.out
              have hx0 : wr.cell? ⟨w2.heap.size, 0, none⟩ = some (.int .i64 n) := (blk_cell (HF2.out _ HX20.out).2.1 0).trans rfl
              have hx1 : wr.cell? ⟨w2.heap.size, 1, none⟩ = some (.int .i64 s) := (blk_cell (HF2.out _ HX20.out).2.1 1).trans rfl
              have d1 : decide ((row.length : Int) < 2) = false := decide_eq_false (by omega)
              have d2 : ((i : Int) != (i : Int)) = false := by simp
              have d3 : (wrap64 ((row.length : Int) * s) != wrap64 (tu * n)) = false := by rw [HRO.out.mul]; simp
              go_wp2_with fail
              clear hx0 hx1 m0 z0 d1 d2 d3 c1b
              go_loopg [29, 263] row.length (fun gg v29 v263 wr => ∃ (j P : Nat), v263 = .int .i64 (j : Int) ∧ v29 = .int .i64 (P : Int) ∧ Aside0 (P = ((R.take i).flatten ++ row.take j).length) ∧ j ≤ row.length ∧ row.length - j ≤ gg ∧ Aside0 (Kd.R Kd.bool 4 wr w18.heap.size (fun _ => True) vS (flagsL N ((R.take i).flatten ++ row.take j))) ∧ Aside0 (Below w18.heap.size w18 wr))
              case atStart => exact ⟨0, P, rfl, rfl, by rw [List.take_zero, List.append_nil]; exact HP, Nat.zero_le _, by omega, by rw [List.take_zero, List.append_nil]; exact HO, HX20⟩
              case round =>
                clear HO HX20 HP
                obtain ⟨j, P, rfl, rfl, HP, hj, hmj, HO, HX21⟩ := hrel
                by_cases hjr : j < row.length
                · have c2b : decide ((j : Int) < (row.length : Int)) = true := decide_eq_true (by omega)
                  obtain ⟨ad0, hA0, m0⟩ := Kd.at_int (Kd.C_below HCR.out HX21.out) (j : Int) (by omega) (by omega)
                  obtain rfl : a0 = ad0 := Option.some.inj hA0
                  clear hA0
                  rw [Int.toNat_natCast] at m0
                  have hpt := HRO.out.pt j hjr
                  have htr := take_rd row j hjr
                  have hnt := HNT.out j hjr
                  obtain ⟨x, hx⟩ : ∃ x, rd row (j : Int) = x := ⟨_, rfl⟩
                  obtain ⟨hr0_, hr1_⟩ := hpt.rng
                  have hnx := hpt.nx
                  have hpa := hpt.pa
                  have hsb := hpt.sb
                  rw [hx] at m0 htr hnt hr0_ hr1_ hnx hpa hsb
                  have HTR := Aside0.mk htr
                  have HNX := Aside0.mk hnx
                  have HPA := Aside0.mk hpa
                  have HSB := Aside0.mk hsb
                  have HNO := Aside0.mk hnt
                  clear hx htr hnt hpt hnx hpa hsb
                  have hx0 : wr.cell? ⟨w2.heap.size, 0, none⟩ = some (.int .i64 n) := (blk_cell (HF2.out _ HX21.out).2.1 0).trans rfl
                  have hx1 : wr.cell? ⟨w2.heap.size, 1, none⟩ = some (.int .i64 s) := (blk_cell (HF2.out _ HX21.out).2.1 1).trans rfl
                  go_wp2_with fail
                  clear hx0 hx1 m0
                  have hq : 0 ≤ Int.tmod ((j : Int) + 1) (row.length : Int) ∧ Int.tmod ((j : Int) + 1) (row.length : Int) < (row.length : Int) := by
                    rw [Int.tmod_eq_emod_of_nonneg (by omega)]
                    exact ⟨Int.emod_nonneg _ (by omega), Int.emod_lt_of_pos _ (by omega)⟩
                  obtain ⟨hq1, hq2⟩ := hq
                  have hnx := HNX.out
                  obtain ⟨q, hqq⟩ : ∃ q, Int.tmod ((j : Int) + 1) (row.length : Int) = q := ⟨_, rfl⟩
                  rw [hqq] at hq1 hq2 hnx
                  obtain ⟨nx, hnr⟩ : ∃ nx, rd row q = nx := ⟨_, rfl⟩
                  rw [hnr] at hnx
                  have HNR := Aside0.mk hnr
                  have HQQ := Aside0.mk hqq
                  have HQ1 := Aside0.mk hq1
                  have HQ2 := Aside0.mk hq2
                  have HNX2 := Aside0.mk hnx
                  clear hnx HNX hnr hqq hq1 hq2
                  refine (impl_NextPoint.calls n s x nx true _ HNX2.out).mono ?_
                  rintro e w21 ⟨rfl, hb⟩
                  have HX22 := Aside0.mk (below_step HX21.out hb)
                  have HO2 := Aside0.mk (Kd.R_below HO.out hb)
                  clear hb HO HX21
                  have HX23 := Aside0.mk (below_drew1 HX22.out)
                  have HO3 := Aside0.mk (Kd.R_below HO2.out (below_drew1 (Below.refl _ _)))
                  have p0 : (0 < row.length) = True := eq_true (by omega)
                  clear HX22 HO2
                  go_wp2_with fail
                  refine start_ (n := 11) (S := fun w' => w'.cell? ⟨w2.heap.size, 0, none⟩ = some (.int .i64 n) ∧ w'.cell? ⟨w2.heap.size, 1, none⟩ = some (.int .i64 s) ∧ w'.cell? a0 = some (.int .i64 (i : Int))) (ds := []) #[false, false, false, false, false, false, false, false, false, false, false] (by kernel_rfl) rfl rfl ⟨(blk_cell (HF2.out _ HX23.out).2.1 0).trans rfl, (blk_cell (HF2.out _ HX23.out).2.1 1).trans rfl, HZ0.out _ HX23.out⟩ (fun hHeld => ?_)
                  refine pure_ (i := 1) (N := some 276) (v := ?_) (a' := ?_) #[false, true, false, false, false, false, false, false, false, false, false] rfl rfl (by kernel_rfl) (fun _ _ _ h => h) (Or.inl ⟨by rfl, ?_⟩) ?_ ?_
                  rotate_left
                  · intro w'
                    go_simp
                    with_reducible rfl
                  rotate_left
                  · simp only [Act.put, List.setIfInBounds_toArray, List.set_cons_zero, List.set_cons_succ, i64_w, i32_w]
                    rfl
                  refine pure_ (i := 2) (N := some 277) (v := ?_) (a' := ?_) #[false, true, true, false, false, false, false, false, false, false, false] rfl rfl (by kernel_rfl) (fun _ _ _ h => h) (Or.inl ⟨by rfl, ?_⟩) ?_ ?_
                  rotate_left
                  · intro w'
                    go_simp
                    with_reducible rfl
                  rotate_left
                  · simp only [Act.put, List.setIfInBounds_toArray, List.set_cons_zero, List.set_cons_succ, i64_w, i32_w]
                    rfl
                  refine pure_ (i := 4) (N := some 279) (v := ?_) (a' := ?_) #[false, true, true, false, true, false, false, false, false, false, false] rfl rfl (by kernel_rfl) (fun _ _ _ h => h) (Or.inl ⟨by rfl, ?_⟩) ?_ ?_
                  rotate_left
                  · intro w'
                    go_simp
                    with_reducible rfl
                  rotate_left
                  · simp only [Act.put, List.setIfInBounds_toArray, List.set_cons_zero, List.set_cons_succ, i64_w, i32_w]
                    rfl
                  refine take_ (i := 0) (N := some 275) (v := ?_) (a' := ?_) #[true, true, true, false, true, false, false, false, false, false, false] rfl rfl (by kernel_rfl) (fun _ _ _ h => h) (Or.inl ⟨by rfl, ?_⟩) hHeld ?_ ?_
                  rotate_left
                  · rintro w' ⟨s0, s1, s2⟩
                    go_simp
                    with_reducible rfl
                  rotate_left
                  · simp only [Act.put, List.setIfInBounds_toArray, List.set_cons_zero, List.set_cons_succ, i64_w, i32_w]
                    rfl
                  refine take_ (i := 3) (N := some 278) (v := ?_) (a' := ?_) #[true, true, true, true, true, false, false, false, false, false, false] rfl rfl (by kernel_rfl) (fun _ _ _ h => h) (Or.inl ⟨by rfl, ?_⟩) hHeld ?_ ?_
                  rotate_left
                  · rintro w' ⟨s0, s1, s2⟩
                    go_simp
                    with_reducible rfl
                  rotate_left
                  · simp only [Act.put, List.setIfInBounds_toArray, List.set_cons_zero, List.set_cons_succ, i64_w, i32_w]
                    rfl
                  refine one_ (i := 5) (N := some 280) #[true, true, true, true, true, true, false, false, false, false, false] rfl rfl (by kernel_rfl) (by decide) (fun K hK => ?_)
                  refine goes_ Tryz.func21 (by kernel_rfl) rfl #[.agg #[.int .i64 n, .int .i64 s], .int .i64 (i : Int), .int .i64 (j : Int)] (by rfl) rfl rfl (by simp only [List.map_toArray, List.map_cons, List.map_nil]; rfl) ?_
                  with_reducible refine (impl_PointAfter.calls n s (i : Int) (j : Int) x true _ HPA.out).mono ?_
                  rintro e w22 ⟨rfl, hb⟩
                  refine ⟨_, rfl, ?_⟩
                  have HX24 := Aside0.mk (below_step HX23.out hb)
                  have HO4 := Aside0.mk (Kd.R_below HO3.out hb)
                  clear hb HO3
                  refine hK.out _ _ ⟨(blk_cell (HF2.out _ HX24.out).2.1 0).trans rfl, (blk_cell (HF2.out _ HX24.out).2.1 1).trans rfl, HZ0.out _ HX24.out⟩ (fun hHeld => ?_)
                  clear hK K
                  refine norm_ (a' := ?_) ?_ ?_
                  rotate_left
                  · show Act.put _ (some 280) _ = _
                    simp only [Act.put, List.setIfInBounds_toArray, List.set_cons_zero, List.set_cons_succ, i64_w, i32_w]
                    rfl
                  refine pure_ (i := 6) (N := some 274) (v := ?_) (a' := ?_) #[true, true, true, true, true, true, true, false, false, false, false] rfl rfl (by kernel_rfl) (fun _ _ _ h => h) (Or.inl ⟨by rfl, ?_⟩) ?_ ?_
                  rotate_left
                  · intro w'
                    go_simp
                    with_reducible rfl
                  rotate_left
                  · simp only [Act.put, List.setIfInBounds_toArray, List.set_cons_zero, List.set_cons_succ, i64_w, i32_w]
                    rfl
                  refine pure_ (i := 7) (N := some 281) (v := ?_) (a' := ?_) #[true, true, true, true, true, true, true, true, false, false, false] rfl rfl (by kernel_rfl) (fun _ _ _ h => h) (Or.inl ⟨by rfl, ?_⟩) ?_ ?_
                  rotate_left
                  · intro w'
                    go_simp
                    with_reducible rfl
                  rotate_left
                  · simp only [Act.put, List.setIfInBounds_toArray, List.set_cons_zero, List.set_cons_succ, i64_w, i32_w]
                    rfl
                  refine pure_ (i := 8) (N := some 282) (v := ?_) (a' := ?_) #[true, true, true, true, true, true, true, true, true, false, false] rfl rfl (by kernel_rfl) (fun _ _ _ h => h) (Or.inl ⟨by rfl, ?_⟩) ?_ ?_
                  rotate_left
                  · intro w'
                    go_simp
                    with_reducible rfl
                  rotate_left
                  · simp only [Act.put, List.setIfInBounds_toArray, List.set_cons_zero, List.set_cons_succ, i64_w, i32_w]
                    rfl
                  refine pure_ (i := 9) (N := some 36) (v := ?_) (a' := ?_) #[true, true, true, true, true, true, true, true, true, true, false] rfl rfl (by kernel_rfl) (fun _ _ _ h => h) (Or.inl ⟨by rfl, ?_⟩) ?_ ?_
                  rotate_left
                  · intro w'
                    go_simp
                    with_reducible rfl
                  rotate_left
                  · simp only [Act.put, List.setIfInBounds_toArray, List.set_cons_zero, List.set_cons_succ, i64_w, i32_w]
                    rfl
                  refine pure_ (i := 10) (N := some 37) (v := ?_) (a' := ?_) #[true, true, true, true, true, true, true, true, true, true, true] rfl rfl (by kernel_rfl) (fun _ _ _ h => h) (Or.inl ⟨by rfl, ?_⟩) ?_ ?_
                  rotate_left
                  · intro w'
                    go_simp
                    with_reducible rfl
                  rotate_left
                  · simp only [Act.put, List.setIfInBounds_toArray, List.set_cons_zero, List.set_cons_succ, i64_w, i32_w]
                    rfl
                  refine done_ (by kernel_rfl) ?_
                  have HX25 := Aside0.mk (below_drew1 HX24.out)
                  have HO5 := Aside0.mk (Kd.R_below HO4.out (below_drew1 (Below.refl _ _)))
                  clear HX23 HX24 HO4
                  go_wp2_with fail
                  refine start_ (n := 11) (S := fun w' => w'.cell? ⟨w2.heap.size, 0, none⟩ = some (.int .i64 n) ∧ w'.cell? ⟨w2.heap.size, 1, none⟩ = some (.int .i64 s) ∧ w'.cell? a0 = some (.int .i64 (i : Int))) (ds := []) #[false, false, false, false, false, false, false, false, false, false, false] (by kernel_rfl) rfl rfl ⟨(blk_cell (HF2.out _ HX25.out).2.1 0).trans rfl, (blk_cell (HF2.out _ HX25.out).2.1 1).trans rfl, HZ0.out _ HX25.out⟩ (fun hHeld => ?_)
                  refine pure_ (i := 1) (N := some 285) (v := ?_) (a' := ?_) #[false, true, false, false, false, false, false, false, false, false, false] rfl rfl (by kernel_rfl) (fun _ _ _ h => h) (Or.inl ⟨by rfl, ?_⟩) ?_ ?_
                  rotate_left
                  · intro w'
                    go_simp
                    with_reducible rfl
                  rotate_left
                  · simp only [Act.put, List.setIfInBounds_toArray, List.set_cons_zero, List.set_cons_succ, i64_w, i32_w]
                    rfl
                  refine pure_ (i := 2) (N := some 286) (v := ?_) (a' := ?_) #[false, true, true, false, false, false, false, false, false, false, false] rfl rfl (by kernel_rfl) (fun _ _ _ h => h) (Or.inl ⟨by rfl, ?_⟩) ?_ ?_
                  rotate_left
                  · intro w'
                    go_simp
                    with_reducible rfl
                  rotate_left
                  · simp only [Act.put, List.setIfInBounds_toArray, List.set_cons_zero, List.set_cons_succ, i64_w, i32_w]
                    rfl
                  refine pure_ (i := 4) (N := some 288) (v := ?_) (a' := ?_) #[false, true, true, false, true, false, false, false, false, false, false] rfl rfl (by kernel_rfl) (fun _ _ _ h => h) (Or.inl ⟨by rfl, ?_⟩) ?_ ?_
                  rotate_left
                  · intro w'
                    go_simp
                    with_reducible rfl
                  rotate_left
                  · simp only [Act.put, List.setIfInBounds_toArray, List.set_cons_zero, List.set_cons_succ, i64_w, i32_w]
                    rfl
                  refine take_ (i := 0) (N := some 284) (v := ?_) (a' := ?_) #[true, true, true, false, true, false, false, false, false, false, false] rfl rfl (by kernel_rfl) (fun _ _ _ h => h) (Or.inl ⟨by rfl, ?_⟩) hHeld ?_ ?_
                  rotate_left
                  · rintro w' ⟨s0, s1, s2⟩
                    go_simp
                    with_reducible rfl
                  rotate_left
                  · simp only [Act.put, List.setIfInBounds_toArray, List.set_cons_zero, List.set_cons_succ, i64_w, i32_w]
                    rfl
                  refine take_ (i := 3) (N := some 287) (v := ?_) (a' := ?_) #[true, true, true, true, true, false, false, false, false, false, false] rfl rfl (by kernel_rfl) (fun _ _ _ h => h) (Or.inl ⟨by rfl, ?_⟩) hHeld ?_ ?_
                  rotate_left
                  · rintro w' ⟨s0, s1, s2⟩
                    go_simp
                    with_reducible rfl
                  rotate_left
                  · simp only [Act.put, List.setIfInBounds_toArray, List.set_cons_zero, List.set_cons_succ, i64_w, i32_w]
                    rfl
                  refine one_ (i := 5) (N := some 289) #[true, true, true, true, true, true, false, false, false, false, false] rfl rfl (by kernel_rfl) (by decide) (fun K hK => ?_)
                  refine goes_ Tryz.func22 (by kernel_rfl) rfl #[.agg #[.int .i64 n, .int .i64 s], .int .i64 (i : Int), .int .i64 x] (by rfl) rfl rfl (by simp only [List.map_toArray, List.map_cons, List.map_nil]; rfl) ?_
                  with_reducible refine (impl_StepsBetween.calls 10000 n s (i : Int) x (j : Int) true _ HSB.out).mono ?_
                  rintro e w23 ⟨rfl, hb⟩
                  refine ⟨_, rfl, ?_⟩
                  have HX26 := Aside0.mk (below_step HX25.out hb)
                  have HO6 := Aside0.mk (Kd.R_below HO5.out hb)
                  clear hb HO5
                  refine hK.out _ _ ⟨(blk_cell (HF2.out _ HX26.out).2.1 0).trans rfl, (blk_cell (HF2.out _ HX26.out).2.1 1).trans rfl, HZ0.out _ HX26.out⟩ (fun hHeld => ?_)
                  clear hK K
                  refine norm_ (a' := ?_) ?_ ?_
                  rotate_left
                  · show Act.put _ (some 289) _ = _
                    simp only [Act.put, List.setIfInBounds_toArray, List.set_cons_zero, List.set_cons_succ, i64_w, i32_w]
                    rfl
                  refine pure_ (i := 6) (N := some 283) (v := ?_) (a' := ?_) #[true, true, true, true, true, true, true, false, false, false, false] rfl rfl (by kernel_rfl) (fun _ _ _ h => h) (Or.inl ⟨by rfl, ?_⟩) ?_ ?_
                  rotate_left
                  · intro w'
                    go_simp
                    with_reducible rfl
                  rotate_left
                  · simp only [Act.put, List.setIfInBounds_toArray, List.set_cons_zero, List.set_cons_succ, i64_w, i32_w]
                    rfl
                  refine pure_ (i := 7) (N := some 290) (v := ?_) (a' := ?_) #[true, true, true, true, true, true, true, true, false, false, false] rfl rfl (by kernel_rfl) (fun _ _ _ h => h) (Or.inl ⟨by rfl, ?_⟩) ?_ ?_
                  rotate_left
                  · intro w'
                    go_simp
                    with_reducible rfl
                  rotate_left
                  · simp only [Act.put, List.setIfInBounds_toArray, List.set_cons_zero, List.set_cons_succ, i64_w, i32_w]
                    rfl
                  refine pure_ (i := 8) (N := some 291) (v := ?_) (a' := ?_) #[true, true, true, true, true, true, true, true, true, false, false] rfl rfl (by kernel_rfl) (fun _ _ _ h => h) (Or.inl ⟨by rfl, ?_⟩) ?_ ?_
                  rotate_left
                  · intro w'
                    go_simp
                    with_reducible rfl
                  rotate_left
                  · simp only [Act.put, List.setIfInBounds_toArray, List.set_cons_zero, List.set_cons_succ, i64_w, i32_w]
                    rfl
                  refine pure_ (i := 9) (N := some 38) (v := ?_) (a' := ?_) #[true, true, true, true, true, true, true, true, true, true, false] rfl rfl (by kernel_rfl) (fun _ _ _ h => h) (Or.inl ⟨by rfl, ?_⟩) ?_ ?_
                  rotate_left
                  · intro w'
                    go_simp
                    with_reducible rfl
                  rotate_left
                  · simp only [Act.put, List.setIfInBounds_toArray, List.set_cons_zero, List.set_cons_succ, i64_w, i32_w]
                    rfl
                  refine pure_ (i := 10) (N := some 39) (v := ?_) (a' := ?_) #[true, true, true, true, true, true, true, true, true, true, true] rfl rfl (by kernel_rfl) (fun _ _ _ h => h) (Or.inl ⟨by rfl, ?_⟩) ?_ ?_
                  rotate_left
                  · intro w'
                    go_simp
                    with_reducible rfl
                  rotate_left
                  · simp only [Act.put, List.setIfInBounds_toArray, List.set_cons_zero, List.set_cons_succ, i64_w, i32_w]
                    rfl
                  refine done_ (by kernel_rfl) ?_
                  have hPb : P ≤ 200 := by
                    have h1 := told_len R i
                    have h2 := OK.out.tot
                    rw [HP.out, List.length_append, List.length_take]
                    omega
                  have hPw : wrap64 ((P : Int) + 1) = (P : Int) + 1 := by unfold wrap64; omega
                  have HPW := Aside0.mk hPw
                  clear hPw hPb
                  have hOx := HO6.out
                  have hlen := flagsL_len N ((R.take i).flatten ++ row.take j)
                  obtain ⟨g, cap, hv, hg1, hg2, cells, hg3⟩ := Kd.R_form hOx (by rw [hlen, HN.out]; omega)
                  rw [hlen] at hv
                  subst hv
                  have hnN : (N : Int) = n := by rw [HN.out]; omega
                  obtain ⟨hcg, hfg⟩ := Kd.R_celln false hOx x hr0_ (by omega)
                  rw [flagsL_rd N _ x hr0_ (by omega), decide_eq_false HNO.out] at hcg
                  have hP := (Kd.R_putg hOx x true).1
                  rw [flagsL_put N _ x hr0_] at hP
                  have HPG := Aside0.mk hP
                  have HX27 := Aside0.mk (show Below w18.heap.size w18 (w23.setCell ⟨g, x.toNat, none⟩ (.bool true)) from below_set HX26.out hg1)
                  obtain ⟨a1, e1_, m1⟩ := Kd.at_int (Kd.C_below HCR.out HX26.out) q HQ1.out HQ2.out
                  obtain rfl : a0 = a1 := Option.some.inj e1_
                  rw [HNR.out] at m1
                  have t0 : Int.tmod ((j : Int) + 1) (row.length : Int) = q := HQQ.out
                  have t1 : (nx != nx) = false := by simp
                  have t2 : (x != x) = false := by simp
                  have t3 : ((j : Int) != (j : Int)) = false := by simp
                  have t4 : ((row.length : Int) == 0) = false := beq_eq_false_iff_ne.2 (by omega)
                  have t5 : (x < (N : Int)) = True := eq_true (by omega)
                  have t6 : (0 ≤ x) = True := eq_true hr0_
                  have t7 : (q < (row.length : Int)) = True := eq_true HQ2.out
                  have t8 : (0 ≤ q) = True := eq_true HQ1.out
                  clear e1_ hP hOx hlen hg2 hg3 hnN hr1_
                  go_wp2_with (first | ((with_reducible refine gate_store (t := 4) (p := 332) rfl ?_); refine store_event (t := 4) (p := 332) (v := ?vo_) (w1 := (w23.setCell ⟨g, x.toNat, none⟩ (.bool true))) ?hg ?ho ?hn ?hr ?_; (case ho => rfl); (case hg => rfl); (case hn => rfl); (case hr => first | (go_simp; done) | (go_simp; rfl)); intro w24 hw; have n0_ := Aside0.mk (show Kd.R Kd.bool 4 w24 w18.heap.size (fun _ => True) (.slice (some ⟨g, 0, none⟩) N cap) (flagsL N ((R.take i).flatten ++ row.take j ++ [x])) by rw [hw]; exact HPG.out); have n1_ := Aside0.mk (show Below w18.heap.size w18 w24 by rw [hw]; exact HX27.out); clear hw))
                  rw [HPW.out]
                  go_roundg (row.length - (j + 1))
                  case measure => omega
                  case rel =>
                    refine ⟨j + 1, P + 1, by go_num, by go_num, ⟨?_⟩, by omega, Nat.le_refl _, ⟨?_⟩, n1_⟩
                    · rw [HP.out, HTR.out]
                      simp only [List.length_append, List.length_cons, List.length_nil]
                      omega
                    · rw [HTR.out, ← List.append_assoc]
                      exact n0_.out
                · obtain rfl : j = row.length := by omega
                  have c2b : decide ((row.length : Int) < (row.length : Int)) = false := decide_eq_false (by omega)
                  go_wp2_with fail
                  have hrl := OK.out.rl
                  go_roundg (R.length - (i + 1))
                  case measure => omega
                  case rel =>
                    refine ⟨i + 1, P, by first | go_num | rw [show wrap64 ((i : Int) + 1) = ((i + 1 : Nat) : Int) by unfold wrap64; omega], rfl, ⟨?_⟩, by omega, Nat.le_refl _, ⟨?_⟩, HX21⟩
                    · rw [HP.out, HTF.out, List.take_length]
                    · have h := HO.out
                      rw [List.take_length] at h
                      rw [HTF.out]
                      exact h
            · obtain rfl : i = R.length := by omega
              have c1b : decide ((R.length : Int) < (R.length : Int)) = false := decide_eq_false (by omega)
              have hx0 : wr.cell? ⟨w2.heap.size, 0, none⟩ = some (.int .i64 n) := (blk_cell (HF2.out _ HX20.out).2.1 0).trans rfl
              have hx1 : wr.cell? ⟨w2.heap.size, 1, none⟩ = some (.int .i64 s) := (blk_cell (HF2.out _ HX20.out).2.1 1).trans rfl
              have hy0 : wr.cell? ⟨br, 0, none⟩ = some (.int .i64 n) := (blk_cell (HF2.out _ HX20.out).2.2.1 0).trans rfl
              have hy1 : wr.cell? ⟨br, 1, none⟩ = some (.int .i64 s) := (blk_cell (HF2.out _ HX20.out).2.2.1 1).trans rfl
              have hPn : (P : Int) = n := by rw [HP.out, List.take_length]; exact OK.out.tot
              have r1 : (n == n) = true := by simp
              have r2 : (s == s) = true := by simp
              have r3 : ((R.length : Int) != cnt) = false := by rw [OK.out.cn]; simp
              have r4 : ((P : Int) != n) = false := by rw [hPn]; simp
              obtain ⟨sm0, sm1, sm2⟩ := OK.out.smb
              have r5 : decide (sm > s) = false := decide_eq_false (by omega)
              have r6 : decide (2 * sm > n) = false := decide_eq_false (by omega)
              clear hPn
              go_wp2_with fail
              go_meet
              case rel => exact ⟨(HF2.out _ HX20.out).2.2.2⟩
      case rest =>
        as_aux_lemma =>
        clear HOK HX12 hl6 hl8
        have HW := Aside0.mk (HF.out _ hcut.out).2.2.2
        clear HF hcut
        go_wp2_with fail
        refine (drawStringOf_calls A1 c1 l1 _ (Kd.C_below HR1.out HW.out) H1.out).mono ?_
        rintro e x1 ⟨rn, rs, rx, rfl, hd, hx, hb⟩
        obtain ⟨L, y9, nx, HV⟩ := hpt.out rn rs rx hd hx
        have HV := Aside0.mk HV
        have HW1 := Aside0.mk (below_step HW.out hb)
        clear hb HW hd hx
        have F1 := Aside0.mk (fun (W : World) (hb : Below (x1.alloc (.cells #[.int .i64 rn, .int .i64 rs] 25 (0, 0))).heap.size (x1.alloc (.cells #[.int .i64 rn, .int .i64 rs] 25 (0, 0))) W) => (⟨blk_below (blk_new x1 (.cells #[.int .i64 rn, .int .i64 rs] 25 (0, 0))) hb, below_step (below_alloc HW1.out (.cells #[.int .i64 rn, .int .i64 rs] 25 (0, 0))) hb⟩ : W.heap[x1.heap.size]? = some (.cells #[.int .i64 rn, .int .i64 rs] 25 (0, 0)) ∧ Below w.heap.size w W))
        have X2 := Aside0.mk (Below.refl (x1.alloc (.cells #[.int .i64 rn, .int .i64 rs] 25 (0, 0))).heap.size (x1.alloc (.cells #[.int .i64 rn, .int .i64 rs] 25 (0, 0))))
        clear HW1
        go_wp2_with fail
        generalize x1.alloc (.cells #[.int .i64 rn, .int .i64 rs] 25 (0, 0)) = x2 at F1 X2 ⊢
        refine (impl_StringOf.calls 10000 rn rs rx L y9 _ HV.out.li).mono ?_
        rintro e x3 ⟨v42, rfl, hl, hb⟩
        have X3 := Aside0.mk (below_step X2.out hb)
        have L3 := Aside0.mk hl
        clear hb X2 hl
        have hx0 : x3.cell? ⟨x1.heap.size, 0, none⟩ = some (.int .i64 rn) := (blk_cell (F1.out _ X3.out).1 0).trans rfl
        have hx1 : x3.cell? ⟨x1.heap.size, 1, none⟩ = some (.int .i64 rs) := (blk_cell (F1.out _ X3.out).1 1).trans rfl
        go_wp2_with fail
        clear hx0 hx1
        refine (spec_StringOf.calls 10000 rn rs rx L y9 _ HV.out.ls).mono ?_
        rintro e x4 ⟨v44, rfl, hl, hb⟩
        have X4 := Aside0.mk (below_step X3.out hb)
        obtain ⟨A42, c42, rfl, hl42, hC42⟩ := Kd.R_reads (Kd.R_below L3.out hb)
        obtain ⟨A44, c44, rfl, hl44, hC44⟩ := Kd.R_reads hl
        have FL := Aside0.mk (fun (W : World) (hb : Below x4.heap.size x4 W) => (⟨Kd.C_below hC42 hb, Kd.C_below hC44 hb, (F1.out _ (below_step X4.out hb)).1, (F1.out _ (below_step X4.out hb)).2⟩ : Kd.C (Kd.int .i64) W A42 L.length L ∧ Kd.C (Kd.int .i64) W A44 L.length L ∧ W.heap[x1.heap.size]? = some (.cells #[.int .i64 rn, .int .i64 rs] 25 (0, 0)) ∧ Below w.heap.size w W))
        have Y4 := Aside0.mk (Below.refl x4.heap.size x4)
        have hx0 : x4.cell? ⟨x1.heap.size, 0, none⟩ = some (.int .i64 rn) := (blk_cell (FL.out _ Y4.out).2.2.1 0).trans rfl
        have hx1 : x4.cell? ⟨x1.heap.size, 1, none⟩ = some (.int .i64 rs) := (blk_cell (FL.out _ Y4.out).2.2.1 1).trans rfl
        clear hb hl X3 L3 hC42 hC44 F1 X4
        go_wp2_with fail
        clear hx0 hx1
        refine (impl_NextPoint.calls rn rs rx nx y9 _ HV.out.ni).mono ?_
        rintro e x5 ⟨rfl, hb⟩
        have Y5 := Aside0.mk (below_step Y4.out hb)
        clear hb Y4
        have hx0 : x5.cell? ⟨x1.heap.size, 0, none⟩ = some (.int .i64 rn) := (blk_cell (FL.out _ Y5.out).2.2.1 0).trans rfl
        have hx1 : x5.cell? ⟨x1.heap.size, 1, none⟩ = some (.int .i64 rs) := (blk_cell (FL.out _ Y5.out).2.2.1 1).trans rfl
        go_wp2_with fail
        clear hx0 hx1
        refine (spec_NextPoint.calls rn rs rx nx y9 _ HV.out.ns).mono ?_
        rintro e x6 ⟨rfl, hb⟩
        have Y6 := Aside0.mk (below_step Y5.out hb)
        clear hb Y5
        go_wp2_with fail
        refine (drawStepsBetween_calls A1 c1 l1 _ (Kd.C_below HR1.out (FL.out _ Y6.out).2.2.2) H1.out).mono ?_
        rintro e x7 ⟨qn, qs, qx, qy, rfl, hd, hx, ⟨hy0, hy1⟩, hb⟩
        obtain ⟨st, y13, HS⟩ := hsteps.out qn qs qx qy hd hx hy0 hy1
        have HS := Aside0.mk HS
        have Y7 := Aside0.mk (below_step Y6.out hb)
        clear hb Y6 hd hx hy0 hy1
        have F2 := Aside0.mk (fun (W : World) (hb : Below (x7.alloc (.cells #[.int .i64 qn, .int .i64 qs] 25 (0, 0))).heap.size (x7.alloc (.cells #[.int .i64 qn, .int .i64 qs] 25 (0, 0))) W) => (⟨blk_below (blk_new x7 (.cells #[.int .i64 qn, .int .i64 qs] 25 (0, 0))) hb, below_step (below_alloc Y7.out (.cells #[.int .i64 qn, .int .i64 qs] 25 (0, 0))) hb⟩ : W.heap[x7.heap.size]? = some (.cells #[.int .i64 qn, .int .i64 qs] 25 (0, 0)) ∧ Below x4.heap.size x4 W))
        have X8 := Aside0.mk (Below.refl (x7.alloc (.cells #[.int .i64 qn, .int .i64 qs] 25 (0, 0))).heap.size (x7.alloc (.cells #[.int .i64 qn, .int .i64 qs] 25 (0, 0))))
        clear Y7
        go_wp2_with fail
        generalize x7.alloc (.cells #[.int .i64 qn, .int .i64 qs] 25 (0, 0)) = x8 at F2 X8 ⊢
        refine (impl_StepsBetween.calls 10000 qn qs qx qy st y13 _ HS.out.im).mono ?_
        rintro e x9 ⟨rfl, hb⟩
        have X9 := Aside0.mk (below_step X8.out hb)
        clear hb X8
        have hx0 : x9.cell? ⟨x7.heap.size, 0, none⟩ = some (.int .i64 qn) := (blk_cell (F2.out _ X9.out).1 0).trans rfl
        have hx1 : x9.cell? ⟨x7.heap.size, 1, none⟩ = some (.int .i64 qs) := (blk_cell (F2.out _ X9.out).1 1).trans rfl
        go_wp2_with fail
        clear hx0 hx1
        refine (spec_StepsBetween.calls 10000 qn qs qx qy st y13 _ HS.out.sp).mono ?_
        rintro e xA ⟨rfl, hb⟩
        have XA := Aside0.mk (below_step X9.out hb)
        clear hb X9
        go_wp2_with fail
        refine (drawStepTo_calls A1 c1 l1 _ (Kd.C_below HR1.out (FL.out _ (F2.out _ XA.out).2).2.2.2) H1.out).mono ?_
        rintro e xB ⟨tp, ta, tb, tk, rfl, hd, ⟨hy0, hy1⟩, hk, hb⟩
        obtain ⟨sp, y15, HT⟩ := hto.out tp ta tb tk hd hy0 hy1 hk
        have HT := Aside0.mk HT
        have XB := Aside0.mk (below_step XA.out hb)
        clear hb XA hd hy0 hy1 hk
        go_wp2_with fail
        refine (impl_StepTo.calls 10000 tp ta tb tk sp y15 _ HT.out.im).mono ?_
        rintro e xC ⟨rfl, hb⟩
        have XC := Aside0.mk (below_step XB.out hb.below)
        clear hb XB
        go_wp2_with fail
        refine (spec_StepTo.calls 10000 tp ta tb tk sp y15 _ HT.out.sp).mono ?_
        rintro e xD ⟨rfl, hb⟩
        have XD := Aside0.mk (below_step XC.out hb.below)
        clear hb XC
        go_wp2_with fail
        refine (drawPointAfter_calls A1 c1 l1 _ (Kd.C_below HR1.out (FL.out _ (F2.out _ XD.out).2).2.2.2) H1.out).mono ?_
        rintro e xE ⟨pn, ps, px, pk, rfl, hd, hx, hk, hb⟩
        obtain ⟨pv, y17, HP⟩ := hafter.out pn ps px pk hd hx hk
        have HP := Aside0.mk HP
        have XE := Aside0.mk (below_step XD.out hb)
        clear hb XD hd hx hk
        have F3 := Aside0.mk (fun (W : World) (hb : Below (xE.alloc (.cells #[.int .i64 pn, .int .i64 ps] 25 (0, 0))).heap.size (xE.alloc (.cells #[.int .i64 pn, .int .i64 ps] 25 (0, 0))) W) => (⟨blk_below (blk_new xE (.cells #[.int .i64 pn, .int .i64 ps] 25 (0, 0))) hb, below_step (below_alloc XE.out (.cells #[.int .i64 pn, .int .i64 ps] 25 (0, 0))) hb⟩ : W.heap[xE.heap.size]? = some (.cells #[.int .i64 pn, .int .i64 ps] 25 (0, 0)) ∧ Below x8.heap.size x8 W))
        have XF := Aside0.mk (Below.refl (xE.alloc (.cells #[.int .i64 pn, .int .i64 ps] 25 (0, 0))).heap.size (xE.alloc (.cells #[.int .i64 pn, .int .i64 ps] 25 (0, 0))))
        clear XE
        go_wp2_with fail
        generalize xE.alloc (.cells #[.int .i64 pn, .int .i64 ps] 25 (0, 0)) = xF at F3 XF ⊢
        refine (impl_PointAfter.calls pn ps px pk pv y17 _ HP.out.im).mono ?_
        rintro e xG ⟨rfl, hb⟩
        have XG := Aside0.mk (below_step XF.out hb)
        clear hb XF
        have hx0 : xG.cell? ⟨xE.heap.size, 0, none⟩ = some (.int .i64 pn) := (blk_cell (F3.out _ XG.out).1 0).trans rfl
        have hx1 : xG.cell? ⟨xE.heap.size, 1, none⟩ = some (.int .i64 ps) := (blk_cell (F3.out _ XG.out).1 1).trans rfl
        go_wp2_with fail
        clear hx0 hx1
        refine (spec_PointAfter.calls pn ps px pk pv y17 _ HP.out.sp).mono ?_
        rintro e xH ⟨rfl, hb⟩
        have XH := Aside0.mk (below_step XG.out hb)
        clear hb XG
        go_wp2_with fail
        refine (drawParseStar_calls A1 c1 l1 _ (Kd.C_below HR1.out (FL.out _ (F2.out _ (F3.out _ XH.out).2).2).2.2.2) H1.out htx.out).mono ?_
        rintro e xI ⟨t, rfl, ht, hb⟩
        obtain ⟨rp, rq, y19, HQ⟩ := hread.out t ht
        have HQ := Aside0.mk HQ
        have XI := Aside0.mk (below_step (F3.out _ XH.out).2 hb)
        clear hb XH F3 ht HP
        go_wp2_with fail
        refine (impl_ParseStar.calls t rp rq y19 _ (HG.out.below (FL.out _ (F2.out _ XI.out).2).2.2.2) HQ.out.im).mono ?_
        rintro e xJ ⟨rfl, hb⟩
        have XJ := Aside0.mk (below_step XI.out hb)
        clear hb XI
        have F4 := Aside0.mk (fun (W : World) (hb : Below (xJ.alloc (.cells #[.int .i64 rp, .int .i64 rq] 25 (0, 0))).heap.size (xJ.alloc (.cells #[.int .i64 rp, .int .i64 rq] 25 (0, 0))) W) => (⟨blk_below (blk_new xJ (.cells #[.int .i64 rp, .int .i64 rq] 25 (0, 0))) hb, below_step (below_alloc XJ.out (.cells #[.int .i64 rp, .int .i64 rq] 25 (0, 0))) hb⟩ : W.heap[xJ.heap.size]? = some (.cells #[.int .i64 rp, .int .i64 rq] 25 (0, 0)) ∧ Below x8.heap.size x8 W))
        have XK := Aside0.mk (Below.refl (xJ.alloc (.cells #[.int .i64 rp, .int .i64 rq] 25 (0, 0))).heap.size (xJ.alloc (.cells #[.int .i64 rp, .int .i64 rq] 25 (0, 0))))
        clear XJ
        go_wp2_with fail
        generalize xJ.alloc (.cells #[.int .i64 rp, .int .i64 rq] 25 (0, 0)) = xK at F4 XK ⊢
        refine (spec_ParseStar.calls 10000 t rp rq y19 _ HQ.out.sp).mono ?_
        rintro e xL ⟨rfl, hb⟩
        have XL := Aside0.mk (below_step XK.out hb)
        clear hb XK
        have XM := Aside0.mk (below_alloc XL.out (.cells #[.int .i64 rp, .int .i64 rq] 25 (0, 0)))
        have BM := Aside0.mk (blk_new xL (.cells #[.int .i64 rp, .int .i64 rq] 25 (0, 0)))
        obtain ⟨bM, hbM⟩ : ∃ bM, xL.heap.size = bM := ⟨_, rfl⟩
        have hx0 : (xL.alloc (.cells #[.int .i64 rp, .int .i64 rq] 25 (0, 0))).cell? ⟨xJ.heap.size, 0, none⟩ = some (.int .i64 rp) := (blk_cell (F4.out _ XM.out).1 0).trans rfl
        have hx1 : (xL.alloc (.cells #[.int .i64 rp, .int .i64 rq] 25 (0, 0))).cell? ⟨xJ.heap.size, 1, none⟩ = some (.int .i64 rq) := (blk_cell (F4.out _ XM.out).1 1).trans rfl
        have hz0 : (xL.alloc (.cells #[.int .i64 rp, .int .i64 rq] 25 (0, 0))).cell? ⟨xL.heap.size, 0, none⟩ = some (.int .i64 rp) := (blk_cell BM.out 0).trans rfl
        have hz1 : (xL.alloc (.cells #[.int .i64 rp, .int .i64 rq] 25 (0, 0))).cell? ⟨xL.heap.size, 1, none⟩ = some (.int .i64 rq) := (blk_cell BM.out 1).trans rfl
        have q1 : (y9 != y9) = false := by simp
        have q2 : (nx != nx) = false := by simp
        have q3 : (y13 != y13) = false := by simp
        have q4 : (st != st) = false := by simp
        have q5 : (y15 != y15) = false := by simp
        have q6 : (sp != sp) = false := by simp
        have q7 : (y17 != y17) = false := by simp
        have q8 : (pv != pv) = false := by simp
        have q9 : (y19 != y19) = false := by simp
        have qa : (rp == rp) = true := by simp
        have qb : (rq == rq) = true := by simp
        clear hbM
        go_wp2_with fail
        refine (laws_uSame.calls 10000 A42 c42 L A44 c44 L true _ (FL.out _ (F2.out _ (F4.out _ XM.out).2).2).1 hl42 (FL.out _ (F2.out _ (F4.out _ XM.out).2).2).2.1 hl44 HV.out.uu).mono ?_
        rintro e xN ⟨rfl, hb⟩
        have XN := Aside0.mk (below_step (F4.out _ XM.out).2 hb.below)
        have BJ := Aside0.mk (blk_below (F4.out _ XM.out).1 hb.below)
        have BN := Aside0.mk (blk_below BM.out hb.below)
        clear hb hx0 hx1 hz0 hz1 XM BM XL
        have hx0 : xN.cell? ⟨xJ.heap.size, 0, none⟩ = some (.int .i64 rp) := (blk_cell BJ.out 0).trans rfl
        have hx1 : xN.cell? ⟨xJ.heap.size, 1, none⟩ = some (.int .i64 rq) := (blk_cell BJ.out 1).trans rfl
        have hz0 : xN.cell? ⟨xL.heap.size, 0, none⟩ = some (.int .i64 rp) := (blk_cell BN.out 0).trans rfl
        have hz1 : xN.cell? ⟨xL.heap.size, 1, none⟩ = some (.int .i64 rq) := (blk_cell BN.out 1).trans rfl
        go_upto_if 537 with (fail)
        clear q1 q2 q3 q4 q5 q6 q7 q8 q9 qa qb hx0 hx1 hz0 hz1 BN
        have HWN := Aside0.mk (FL.out _ (F2.out _ XN.out).2).2.2.2
        have BQ := Aside0.mk (F2.out _ XN.out).1
        clear FL F2 F4 XN hl42 hl44 HV
        have HX := Aside0.mk (Below.refl xN.heap.size xN)
        go_cut [77, 78] from 538 to 551 (fun _ _ wx => Aside0 (Below xN.heap.size xN wx))
        case first =>
          as_aux_lemma =>
          cases y13 with
          | false =>
            go_wp2_with fail
            go_meet
            case rel => exact HX
          | true =>
            have hx0 : xN.cell? ⟨x7.heap.size, 0, none⟩ = some (.int .i64 qn) := (blk_cell BQ.out 0).trans rfl
            have hx1 : xN.cell? ⟨x7.heap.size, 1, none⟩ = some (.int .i64 qs) := (blk_cell BQ.out 1).trans rfl
            go_wp2_with fail
            clear hx0 hx1
            refine (impl_PointAfter.calls qn qs qx st qy true _ (HS.out.back rfl)).mono ?_
            rintro e y1 ⟨rfl, hb⟩
            have HX1 := Aside0.mk (below_step HX.out hb)
            clear hb HX
            have q1 : (qy != qy) = false := by simp
            go_wp2_with fail
            go_meet
            case rel => exact HX1
        case rest =>
          as_aux_lemma =>
          clear HX HS BQ
          have HX := hcut
          clear hcut
          go_upto_if 552 with (fail)
          go_cut [79, 80, 81, 82, 83] from 553 to 589 (fun _ _ _ _ _ wx => Aside0 (Below xN.heap.size xN wx))
          case first =>
            as_aux_lemma =>
            cases y15 with
            | false =>
              go_wp2_with fail
              go_meet
              case rel => exact HX
            | true =>
              obtain ⟨hs60, hless⟩ := HT.out.less rfl
              have HLE := Aside0.mk hless
              clear hless
              go_wp2_with fail
              refine (impl_PointAfter.calls tp sp ta tk tb true _ (HT.out.ends rfl)).mono ?_
              rintro e y1 ⟨rfl, hb⟩
              have HX1 := Aside0.mk (below_step HX.out hb)
              clear hb HX
              have q1 : (tb != tb) = false := by simp
              go_wp2_with fail
              clear q1
              go_loopg [81] 100 (fun gg v81 wr => ∃ (l : Int), v81 = .int .i64 l ∧ 1 ≤ l ∧ l ≤ 61 ∧ 100 - l ≤ gg ∧ Aside0 (Below xN.heap.size xN wr))
              case atStart => exact ⟨1, rfl, by omega, by omega, by omega, HX1⟩
              case round =>
                clear HX1
                obtain ⟨l, rfl, h1l, hl61, hml, HX2⟩ := hrel
                by_cases hls : l < sp
                · obtain ⟨ev, hev, hne⟩ := HLE.out l h1l hls
                  have HEV := Aside0.mk hev
                  have q0 : decide (l < sp) = true := decide_eq_true hls
                  have q1 : (ev == tb) = false := beq_eq_false_iff_ne.2 hne
                  have hwl : wrap64 (l + 1) = l + 1 := by unfold wrap64; omega
                  have HWL := Aside0.mk hwl
                  clear hwl hev hne
                  go_wp2_with fail
                  refine (impl_PointAfter.calls tp l ta tk ev true _ HEV.out).mono ?_
                  rintro e y2 ⟨rfl, hb⟩
                  have HX3 := Aside0.mk (below_step HX2.out hb)
                  clear hb HX2
                  go_wp2_with fail
                  go_roundg (99 - l).toNat
                  case measure => omega
                  case rel => exact ⟨l + 1, by go_num, by omega, by omega, by omega, HX3⟩
                · have q0 : decide (l < sp) = false := decide_eq_false hls
                  go_wp2_with fail
                  go_meet
                  case rel => exact HX2
          case rest =>
            as_aux_lemma =>
            clear HX HT
            have HX := hcut
            clear hcut
            cases y19 with
            | false =>
              go_wp2_with fail
              go_ret
              exact ⟨rfl, below_step HWN.out HX.out⟩
            | true =>
              have hx0 : wc.cell? ⟨xJ.heap.size, 0, none⟩ = some (.int .i64 rp) := (blk_cell (blk_below BJ.out HX.out) 0).trans rfl
              have hx1 : wc.cell? ⟨xJ.heap.size, 1, none⟩ = some (.int .i64 rq) := (blk_cell (blk_below BJ.out HX.out) 1).trans rfl
              go_wp2_with fail
              clear hx0 hx1
              refine (impl_StarText.calls rp rq t true _ (HQ.out.back rfl)).mono ?_
              rintro e y1 ⟨rfl, hb⟩
              have HX1 := Aside0.mk (below_step HX.out hb)
              clear hb HX
              have q1 : (t.toList == t.toList) = true := by simp
              go_wp2_with fail
              go_ret
              exact ⟨rfl, below_step HWN.out HX1.out⟩
end Go.Proofs.YthmhfagnenoibaaGreatDoor.X
end
section
namespace Go.Proofs.YthmhfagnenoibaaGreatDoor.X
open Go.RowKit Go.Proofs.YthmhfagnenoibaaGreatDoorW.PrintWords Go.Proofs.YthmhfagnenoibaaGreatDoorW.PrintLast Go.Proofs.YthmhfagnenoibaaGreatDoorW.PrintMore
attribute [local go_sem] max2_int min2_int max_two min_two max_three min_three max_four min_four
set_option linter.unusedVariables false
set_option linter.unusedSimpArgs false
open Classical in
noncomputable def laws_FnStarsString.f (l0 l1 : List Int) : Option Bool := if isBytes l0 ∧ isBytes l1 then some true else none
theorem laws_FnStarsString.calls (A0 : Option Addr) (c0 : Nat) (l0 : List Int) (A1 : Option Addr) (c1 : Nat) (l1 : List Int) (r : Bool) (w : World) (hr0 : Kd.C (Kd.int .u8) w A0 l0.length l0) (hc0 : l0.length ≤ c0) (hr1 : Kd.C (Kd.int .u8) w A1 l1.length l1) (hc1 : l1.length ≤ c1) (hG : GW w) (h : laws_FnStarsString.f l0 l1 = some r) :
    Calls Tryz.prog 3 #[.slice A0 l0.length c0, .slice A1 l1.length c1] w fun e w' => e = .returned (.bool r) ∧ Below w.heap.size w w' := by
  unfold laws_FnStarsString.f at h
  split at h
  · rename_i hb
    obtain rfl := Option.some.inj h
    exact law_walk A0 c0 l0 A1 c1 l1 w hr0 hc0 hr1 hc1 hb.1 hb.2 hG ⟨fun n s _ => star_facts n s⟩ ⟨fun n s x _ _ => point_facts n s x⟩ ⟨fun n s x y _ _ _ _ => between_facts n s x y⟩ ⟨fun p x y k _ _ _ _ => stepTo_facts p x y k⟩ ⟨fun n s x k _ _ _ => after_facts n s x k⟩ ⟨written_facts⟩ ⟨parse_facts⟩
  · cases h
end Go.Proofs.YthmhfagnenoibaaGreatDoor.X
end
section
namespace Go.Proofs.YthmhfagnenoibaaGreatDoor.Q
open Go.RowKit Go.Proofs.YthmhfagnenoibaaGreatDoor.X Go.Proofs.YthmhfagnenoibaaGreatDoorW.PrintWords Go.Proofs.YthmhfagnenoibaaGreatDoorW.PrintLast Go.Proofs.YthmhfagnenoibaaGreatDoorW.PrintMore
set_option linter.unusedVariables false
set_option linter.unusedSimpArgs false
theorem byte_wf {l : List Int} (h : ∀ x ∈ l, (Lit.int .u8 x).wf = true) : isBytes l := by
  intro x hx
  have := h x hx
  simp only [Lit.wf, IntKind.min, IntKind.max, IntKind.signed, IntKind.bits, Bool.and_eq_true, decide_eq_true_eq] at this
  simp at this
  omega
theorem FnStarsString : ∀ (l0 l1 : List Int), (∀ x ∈ l0, (Lit.int .u8 x).wf = true) → (∀ x ∈ l1, (Lit.int .u8 x).wf = true) → laws_FnStarsString.f l0 l1 = some true := by
  intro l0 l1 h0 h1
  unfold laws_FnStarsString.f
  rw [if_pos ⟨byte_wf h0, byte_wf h1⟩]
end Go.Proofs.YthmhfagnenoibaaGreatDoor.Q
end
section
namespace Go.Proofs.YthmhfagnenoibaaGreatDoor.XRow
open Go.ChangeShapes Go.WideShapes Go.RowKit Go.Proofs.YthmhfagnenoibaaGreatDoor.X Go.Proofs.YthmhfagnenoibaaGreatDoorW.PrintWords
theorem open_row_int {H : Type} {enc : TypeId × Value → H} {P : Program} {W : World} {r : Reach} {b0 base : Nat} {held : Bool} {t e : TypeId} {k : IntKind} {v : Value} {d : DataW H} {p : List MemPlace} (ht : P.underlying t = some (.slice e)) (he : P.underlying e = some (.int k)) (hc : P.cellsOf e = 1)
    (hval : Value.okWide P W r b0 t v) (h : DataW.Trod enc P W base (fun _ => true) held t v d p) :
    ∃ (A : Option Addr) (c : Nat) (l : List Int), v = .slice A l.length c ∧ Kd.C (Kd.int k) W A l.length l ∧ l.length ≤ c ∧ ∀ x ∈ l, (Lit.int k x).wf = true := by
  obtain ⟨A0, len, cap, rfl⟩ := okWide_slice ht hval
  obtain ⟨fuel, hf⟩ := h
  rcases open_ints ht he hc hf with ⟨hcs, _⟩ | ⟨a, l, c, zs, hcs, _, hl, hm, hz, _, hcell, hwz⟩
  · simp [Value.cells] at hcs
    obtain ⟨rfl, rfl, rfl⟩ := hcs
    exact ⟨none, 0, [], rfl, Kd.C_nil _ _, Nat.le_refl _, fun x hx => by cases hx⟩
  · simp [Value.cells] at hcs
    obtain ⟨rfl, rfl, rfl⟩ := hcs
    have hz' : zs.length = cap := by simpa using hz
    have hlen : (zs.take len).length = len := by rw [List.length_take]; omega
    have hmax : maxLen = 9223372036854775807 := by decide
    refine ⟨some a, cap, zs.take len, by rw [hlen], Kd.C_of_reads (d := (0 : Int)) ⟨rfl, by omega, fun _ => ⟨a, rfl, fun j hj => ?_⟩⟩, by omega, fun x hx => hwz x (List.mem_of_mem_take hx)⟩
    have := hcell j (by omega)
    rw [this, List.getD_eq_getElem?_getD, List.getD_eq_getElem?_getD, List.getElem?_take, if_pos (by omega)]
end Go.Proofs.YthmhfagnenoibaaGreatDoor.XRow
end
