/- What the statement FnChordsCross needs, part 7 of 7: words, contracts and lemmas, cut to what is named. Written by a program of this work (wip/tools/gpack.py) out of its texts and the print's. -/
import Derived.Test.YtfdocedppachkaaGreatZFnChordsCross5
import Derived.WideShapes
import Derived.ChangeSame
import Derived.OpenShut
import Derived.DataElems
import Derived.ChangeArms
import Derived.ChangeSlices
set_option linter.unusedVariables false
set_option linter.unusedSimpArgs false
set_option maxHeartbeats 80000000
set_option maxRecDepth 100000
section
namespace Go.Proofs.YtfdocedppachkaaGreat.X
open Go.RowKit Go.Proofs.YtfdocedppachkaaGreatW.PrintWords Go.Proofs.YtfdocedppachkaaGreatW.PrintLast Go.Proofs.YtfdocedppachkaaGreatW.PrintMore
attribute [local go_sem] max2_int min2_int max_two min_two max_three min_three max_four min_four
set_option linter.unusedVariables false
set_option linter.unusedSimpArgs false
theorem law_walk (A0 : Option Addr) (c0 : Nat) (l0 : List Int) (A1 : Option Addr) (c1 : Nat) (l1 : List Int) (w : World) (hr0 : Kd.C (Kd.int .u8) w A0 l0.length l0) (hc0 : l0.length ≤ c0) (hr1 : Kd.C (Kd.int .u8) w A1 l1.length l1) (hc1 : l1.length ≤ c1) (hb0 : isBytes l0) (hb1 : isBytes l1)
  (hset : Aside0 (∀ (n : Int) (l : List S44), l.length ≤ 60 → ∃ K P G T D cnt best b pl y7 y9 y11, SetVal K n l P G T D cnt best b pl y7 y9 y11 ∧ (b = true → SetOk K n l P G T cnt best pl y7 y11) ∧ (y9 = true → DropsOk K P D cnt pl)))
  (hmove : Aside0 (∀ (m : Int) (l : List S44) (t : Int), l.length ≤ 60 → ∃ K U M z b x, MoveVal K m l t U M z b ∧ (b = true → MirrorOk K m l M x) ∧ (z = true → TurnOk K m l U t x))) :
  Calls Tryz.prog 3 #[.slice A0 l0.length c0, .slice A1 l1.length c1] w fun e w' => e = .returned (.bool true) ∧ Below w.heap.size w w' := by
 have HR0 := Aside0.mk hr0
 have HR1 := Aside0.mk hr1
 have H0 := Aside0.mk hb0
 have H1 := Aside0.mk hb1
 have HBig := Aside0.mk (fun r h => laws_big.calls A0 c0 l0 A1 c1 l1 r w hr0 hc0 hr1 hc1 h)
 clear hr0 hr1 hb0 hb1
 go_enter Tryz.func3, Tryz.ntmps3
 go_wp2_with fail
 obtain ⟨r, hr⟩ : ∃ r, laws_big.f l0 l1 = some r := by unfold laws_big.f; split <;> exact ⟨_, rfl⟩
 refine (HBig.out r hr).mono ?_
 rintro e w1 ⟨rfl, ⟨⟨nd, rfl⟩⟩⟩
 clear hr HBig
 cases r with
 | true =>
  go_wp2
  go_ret
  exact ⟨rfl, pw_below_drewN (Below.refl _ _) _⟩
 | false =>
  go_wp2_with fail
  refine (drawCrossingPairs_calls A0 c0 l0 _ (Kd.C_drewN HR0.out _) H0.out).mono ?_
  rintro e w2 ⟨n, v6, l, rfl, hl60, hR, hb2⟩
  obtain ⟨A6, c6, rfl, hl6, hC6⟩ := Kd.R_reads hR
  obtain ⟨KF, P, G, T, D, cnt, best, b, pl, y7, y9, y11, HV, hok, hdr⟩ := hset.out n l hl60
  have HOK := Aside0.mk hok
  have HDR := Aside0.mk hdr
  have HV := Aside0.mk HV
  have HB2 := Aside0.mk (below_step (pw_below_drewN (Below.refl w.heap.size w) nd) hb2)
  have HC6 := Aside0.mk hC6
  clear hb2 hok hdr hset hR hC6 HR0 H0
  go_wp2_with fail
  refine (impl_CrossingPairs.calls KF n A6 c6 l P b _ HC6.out hl6 HV.out.pi).mono ?_
  rintro e w3 ⟨v7, rfl, hL, hb⟩
  replace HC6 := Aside0.mk (Kd.C_below HC6.out hb)
  have HB3 := Aside0.mk (below_step HB2.out hb)
  obtain ⟨A7, c7, rfl, hl7, hC⟩ := Kd.R_reads (Kd.S_R hL)
  have HC7 := Aside0.mk hC
  clear hL hC
  clear hb HB2
  go_wp2_with fail
  refine (spec_CrossingPairs.calls KF n A6 c6 l P b _ HC6.out hl6 HV.out.ps).mono ?_
  rintro e w4 ⟨v9, rfl, hL, hb⟩
  replace HC6 := Aside0.mk (Kd.C_below HC6.out hb)
  replace HC7 := Aside0.mk (Kd.C_below HC7.out hb)
  have HB4 := Aside0.mk (below_step HB3.out hb)
  obtain ⟨A9, c9, rfl, hl9, hC⟩ := Kd.R_reads (Kd.S_R hL)
  have HC9 := Aside0.mk hC
  clear hL hC
  clear hb HB3
  go_wp2_with fail
  refine (impl_CountPairsCrossing.calls KF n A6 c6 l cnt b _ HC6.out hl6 HV.out.ci).mono ?_
  rintro e w5 ⟨rfl, hb⟩
  replace HC6 := Aside0.mk (Kd.C_below HC6.out hb)
  replace HC7 := Aside0.mk (Kd.C_below HC7.out hb)
  replace HC9 := Aside0.mk (Kd.C_below HC9.out hb)
  have HB5 := Aside0.mk (below_step HB4.out hb)
  clear hb HB4
  go_wp2_with fail
  refine (spec_CountPairsCrossing.calls KF n A6 c6 l cnt b _ HC6.out hl6 HV.out.cs).mono ?_
  rintro e w6 ⟨rfl, hb⟩
  replace HC6 := Aside0.mk (Kd.C_below HC6.out hb)
  replace HC7 := Aside0.mk (Kd.C_below HC7.out hb)
  replace HC9 := Aside0.mk (Kd.C_below HC9.out hb)
  have HB6 := Aside0.mk (below_step HB5.out hb)
  clear hb HB5
  go_wp2_with fail
  refine (impl_IsPlane.calls KF n A6 c6 l pl b _ HC6.out hl6 HV.out.li).mono ?_
  rintro e w7 ⟨rfl, hb⟩
  replace HC6 := Aside0.mk (Kd.C_below HC6.out hb)
  replace HC7 := Aside0.mk (Kd.C_below HC7.out hb)
  replace HC9 := Aside0.mk (Kd.C_below HC9.out hb)
  have HB7 := Aside0.mk (below_step HB6.out hb)
  clear hb HB6
  go_wp2_with fail
  refine (spec_IsPlane.calls KF n A6 c6 l pl b _ HC6.out hl6 HV.out.ls).mono ?_
  rintro e w8 ⟨rfl, hb⟩
  replace HC6 := Aside0.mk (Kd.C_below HC6.out hb)
  replace HC7 := Aside0.mk (Kd.C_below HC7.out hb)
  replace HC9 := Aside0.mk (Kd.C_below HC9.out hb)
  have HB8 := Aside0.mk (below_step HB7.out hb)
  clear hb HB7
  go_wp2_with fail
  refine (impl_CrossingGroups.calls KF n A6 c6 l G b _ HC6.out hl6 HV.out.gi).mono ?_
  rintro e w9 ⟨v19, rfl, hL, hb⟩
  replace HC6 := Aside0.mk (Kd.C_below HC6.out hb)
  replace HC7 := Aside0.mk (Kd.C_below HC7.out hb)
  replace HC9 := Aside0.mk (Kd.C_below HC9.out hb)
  have HB9 := Aside0.mk (below_step HB8.out hb)
  obtain ⟨A19, c19, rfl, hl19, hC⟩ := Kd.R_reads (Kd.S_R hL)
  have HC19 := Aside0.mk hC
  clear hL hC
  clear hb HB8
  go_wp2_with fail
  refine (spec_CrossingGroups.calls KF n A6 c6 l G b _ HC6.out hl6 HV.out.gs).mono ?_
  rintro e w10 ⟨v21, rfl, hL, hb⟩
  replace HC6 := Aside0.mk (Kd.C_below HC6.out hb)
  replace HC7 := Aside0.mk (Kd.C_below HC7.out hb)
  replace HC9 := Aside0.mk (Kd.C_below HC9.out hb)
  replace HC19 := Aside0.mk (Kd.C_below HC19.out hb)
  have HB10 := Aside0.mk (below_step HB9.out hb)
  obtain ⟨A21, c21, rfl, hl21, hC⟩ := Kd.R_reads (Kd.S_R hL)
  have HC21 := Aside0.mk hC
  clear hL hC
  clear hb HB9
  go_wp2_with fail
  refine (impl_SidesOfChords.calls KF n A6 c6 l T y7 _ HC6.out hl6 HV.out.si).mono ?_
  rintro e w11 ⟨rfl, hb⟩
  replace HC6 := Aside0.mk (Kd.C_below HC6.out hb)
  replace HC7 := Aside0.mk (Kd.C_below HC7.out hb)
  replace HC9 := Aside0.mk (Kd.C_below HC9.out hb)
  replace HC19 := Aside0.mk (Kd.C_below HC19.out hb)
  replace HC21 := Aside0.mk (Kd.C_below HC21.out hb)
  have HB11 := Aside0.mk (below_step HB10.out hb)
  clear hb HB10
  go_wp2_with fail
  refine (spec_SidesOfChords.calls KF n A6 c6 l T y7 _ HC6.out hl6 HV.out.ss).mono ?_
  rintro e w12 ⟨rfl, hb⟩
  replace HC6 := Aside0.mk (Kd.C_below HC6.out hb)
  replace HC7 := Aside0.mk (Kd.C_below HC7.out hb)
  replace HC9 := Aside0.mk (Kd.C_below HC9.out hb)
  replace HC19 := Aside0.mk (Kd.C_below HC19.out hb)
  replace HC21 := Aside0.mk (Kd.C_below HC21.out hb)
  have HB12 := Aside0.mk (below_step HB11.out hb)
  clear hb HB11
  go_wp2_with fail
  refine (impl_FewestDrops.calls KF n A6 c6 l D y9 _ HC6.out hl6 HV.out.di).mono ?_
  rintro e w13 ⟨v27, rfl, hL, hb⟩
  replace HC6 := Aside0.mk (Kd.C_below HC6.out hb)
  replace HC7 := Aside0.mk (Kd.C_below HC7.out hb)
  replace HC9 := Aside0.mk (Kd.C_below HC9.out hb)
  replace HC19 := Aside0.mk (Kd.C_below HC19.out hb)
  replace HC21 := Aside0.mk (Kd.C_below HC21.out hb)
  have HB13 := Aside0.mk (below_step HB12.out hb)
  obtain ⟨A27, c27, rfl, hl27, hC⟩ := Kd.R_reads hL
  have HC27 := Aside0.mk hC
  clear hL hC
  clear hb HB12
  go_wp2_with fail
  refine (spec_FewestDrops.calls KF n A6 c6 l D y9 _ HC6.out hl6 HV.out.ds).mono ?_
  rintro e w14 ⟨v29, rfl, hL, hb⟩
  replace HC6 := Aside0.mk (Kd.C_below HC6.out hb)
  replace HC7 := Aside0.mk (Kd.C_below HC7.out hb)
  replace HC9 := Aside0.mk (Kd.C_below HC9.out hb)
  replace HC19 := Aside0.mk (Kd.C_below HC19.out hb)
  replace HC21 := Aside0.mk (Kd.C_below HC21.out hb)
  replace HC27 := Aside0.mk (Kd.C_below HC27.out hb)
  have HB14 := Aside0.mk (below_step HB13.out hb)
  obtain ⟨A29, c29, rfl, hl29, hC⟩ := Kd.R_reads hL
  have HC29 := Aside0.mk hC
  clear hL hC
  clear hb HB13
  go_wp2_with fail
  refine (impl_MostCrossed.calls KF n A6 c6 l best y11 _ HC6.out hl6 HV.out.mi).mono ?_
  rintro e w15 ⟨rfl, hb⟩
  replace HC6 := Aside0.mk (Kd.C_below HC6.out hb)
  replace HC7 := Aside0.mk (Kd.C_below HC7.out hb)
  replace HC9 := Aside0.mk (Kd.C_below HC9.out hb)
  replace HC19 := Aside0.mk (Kd.C_below HC19.out hb)
  replace HC21 := Aside0.mk (Kd.C_below HC21.out hb)
  replace HC27 := Aside0.mk (Kd.C_below HC27.out hb)
  replace HC29 := Aside0.mk (Kd.C_below HC29.out hb)
  have HB15 := Aside0.mk (below_step HB14.out hb)
  clear hb HB14
  go_wp2_with fail
  refine (spec_MostCrossed.calls KF n A6 c6 l best y11 _ HC6.out hl6 HV.out.ms).mono ?_
  rintro e w16 ⟨rfl, hb⟩
  replace HC6 := Aside0.mk (Kd.C_below HC6.out hb)
  replace HC7 := Aside0.mk (Kd.C_below HC7.out hb)
  replace HC9 := Aside0.mk (Kd.C_below HC9.out hb)
  replace HC19 := Aside0.mk (Kd.C_below HC19.out hb)
  replace HC21 := Aside0.mk (Kd.C_below HC21.out hb)
  replace HC27 := Aside0.mk (Kd.C_below HC27.out hb)
  replace HC29 := Aside0.mk (Kd.C_below HC29.out hb)
  have HB16 := Aside0.mk (below_step HB15.out hb)
  clear hb HB15
  have HF := Aside0.mk (fun (W : World) (hb : Below w16.heap.size w16 W) => (⟨Kd.C_below HC6.out hb, Kd.C_below HC7.out hb, Kd.C_below HC9.out hb, Kd.C_below HC19.out hb, Kd.C_below HC21.out hb, Kd.C_below HC27.out hb, Kd.C_below HC29.out hb, below_step HB16.out hb⟩ : Kd.C k44 W A6 l.length l ∧ Kd.C (Kd.slice 3 (Kd.int .i64)) W A7 P.length P ∧ Kd.C (Kd.slice 3 (Kd.int .i64)) W A9 P.length P ∧ Kd.C (Kd.slice 3 (Kd.int .i64)) W A19 G.length G ∧ Kd.C (Kd.slice 3 (Kd.int .i64)) W A21 G.length G ∧ Kd.C (Kd.int .i64) W A27 D.length D ∧ Kd.C (Kd.int .i64) W A29 D.length D ∧ Below w.heap.size w W))
  have HX := Aside0.mk (Below.refl w16.heap.size w16)
  clear HC6 HC7 HC9 HC19 HC21 HC27 HC29 HB16
  go_upto_region 18 with (fail)
  go_cut [290] from 162 to 289 (fun v290 wx => v290 = .bool false ∧ Aside0 (Below w16.heap.size w16 wx))
  case first =>
   as_aux_lemma =>
   clear hmove HOK HDR
   have F7 := Aside0.mk HV.out.f7
   have F9 := Aside0.mk HV.out.f9
   have F11 := Aside0.mk HV.out.f11
   go_wp2_with fail
   refine (laws_gRows.calls KF A7 c7 P A9 c9 P true _ (HF.out _ HX.out).2.1 hl7 (HF.out _ HX.out).2.2.1 hl9 HV.out.pp).mono ?_
   rintro e wn ⟨rfl, ⟨⟨nn, rfl⟩⟩⟩
   replace HX := Aside0.mk (pw_below_drewN HX.out nn)
   generalize w16.drewN nn = wd7 at HX ⊢
   go_wp2_with fail
   refine (laws_gRows.calls KF A19 c19 G A21 c21 G true _ (HF.out _ HX.out).2.2.2.1 hl19 (HF.out _ HX.out).2.2.2.2.1 hl21 HV.out.gg).mono ?_
   rintro e wn ⟨rfl, ⟨⟨nn, rfl⟩⟩⟩
   replace HX := Aside0.mk (pw_below_drewN HX.out nn)
   generalize wd7.drewN nn = wd19 at HX ⊢
   go_wp2_with fail
   refine (laws_gSame.calls KF A27 c27 D A29 c29 D true _ (HF.out _ HX.out).2.2.2.2.2.1 hl27 (HF.out _ HX.out).2.2.2.2.2.2.1 hl29 HV.out.dd).mono ?_
   rintro e wn ⟨rfl, ⟨⟨nn, rfl⟩⟩⟩
   replace HX := Aside0.mk (pw_below_drewN HX.out nn)
   generalize wd19.drewN nn = wd27 at HX ⊢
   go_wp2_with fail
   refine (impl_AreChords.calls KF n A6 c6 l b _ (HF.out _ HX.out).1 hl6 HV.out.ai).mono ?_
   rintro e wn ⟨rfl, hb⟩
   replace HX := Aside0.mk (below_step HX.out hb)
   clear hb
   go_wp2_with fail
   refine (impl_AreChords.calls KF n A6 c6 l b _ (HF.out _ HX.out).1 hl6 HV.out.ai).mono ?_
   rintro e wn ⟨rfl, hb⟩
   replace HX := Aside0.mk (below_step HX.out hb)
   clear hb
   go_wp2_with fail
   refine (spec_AreChords.calls KF n A6 c6 l b _ (HF.out _ HX.out).1 hl6 HV.out.av).mono ?_
   rintro e wn ⟨rfl, hb⟩
   replace HX := Aside0.mk (below_step HX.out hb)
   clear hb
   clear HF HV
   cases b with
   | false =>
    obtain rfl : y7 = false := by have f7 := F7.out; cases y7 <;> simp at f7 ⊢
    obtain rfl : y9 = false := F9.out
    obtain rfl : y11 = false := F11.out
    go_wp2_with fail
    go_meet
    case rel => exact ⟨rfl, HX⟩
   | true =>
    obtain rfl : y9 = decide ((l.length : Int) ≤ 12) := F9.out
    obtain rfl : y11 = decide (0 < l.length) := by rw [F11.out]; simp
    cases y7 with
    | true =>
     go_wp2_with fail
     go_meet
     case rel => exact ⟨rfl, HX⟩
    | false =>
     go_wp2_with fail
     go_meet
     case rel => exact ⟨rfl, HX⟩
  case rest =>
   as_aux_lemma =>
   obtain ⟨rfl, HX⟩ := hcut
   go_upto_if 291 with (fail)
   go_cut [35, 36, 37, 38, 39, 40, 41, 42, 43, 44, 45, 46, 47] from 292 to 480 (fun _ _ _ _ _ _ _ _ _ _ _ _ _ wx => Aside0 (Below w16.heap.size w16 wx))
   case first =>
    as_aux_lemma =>
    clear hmove HDR
    cases b with
    | false =>
     go_wp2_with fail
     go_meet
     case rel => exact HX
    | true =>
     have OK := Aside0.mk (HOK.out rfl)
     clear HOK
     go_upto_region 21 with (fail)
     go_cut [308] from 292 to 307 (fun v308 wx => v308 = .bool false ∧ Aside0 (Below w16.heap.size w16 wx))
     case first =>
      as_aux_lemma =>
      have cn := OK.out.cn
      have hpl := OK.out.plane
      have hev := OK.out.even
      subst cn
      cases pl with
      | false =>
       have d1 : ((P.length : Int) == 0) = false := hpl.symm
       clear hpl hev OK HV
       go_wp2_with fail
       go_meet
       case rel => exact ⟨rfl, HX⟩
      | true =>
       have d1 : ((P.length : Int) == 0) = true := hpl.symm
       obtain rfl := hev rfl
       clear hpl hev OK HV
       go_wp2_with fail
       go_meet
       case rel => exact ⟨rfl, HX⟩
     case rest =>
      as_aux_lemma =>
      clear HX
      obtain ⟨rfl, HX⟩ := hcut
      rename World => wB
      obtain ⟨hL60, hP4, hG60⟩ := OK.out.lens
      have HF2 := Aside0.mk (fun (W : World) (hb : Below wB.heap.size wB W) => (⟨(HF.out _ (below_step HX.out hb)).1, (HF.out _ (below_step HX.out hb)).2.1, (HF.out _ (below_step HX.out hb)).2.2.2.1, below_step HX.out hb⟩ : Kd.C k44 W A6 l.length l ∧ Kd.C (Kd.slice 3 (Kd.int .i64)) W A7 P.length P ∧ Kd.C (Kd.slice 3 (Kd.int .i64)) W A19 G.length G ∧ Below w16.heap.size w16 W))
      have HXm := Aside0.mk (Below.refl wB.heap.size wB)
      clear HX HF
      go_wp2_with (first | ((with_reducible refine gate_dst (N := 311) rfl ?_); (try (refine gate_guard (by rfl) ?_; dsimp only)); refine Kd.R_make (Kd.int .i64) (w0 := wB) wB.heap.size 3 rfl (N := 311) rfl 36 _ _ rfl (l.length : Int) rfl rfl Tryz.underlying36 (.int .i64 0) 8 info3 rfl (by decide) (by omega) 0 (ok := fun _ => True) (okp := fun _ => True) rfl (fun _ hk => hk) trivial (by omega) (by omega) HXm.out (Nat.le_refl _) ?_; intro vS wS ho hb hg_ hnew_; clear hg_ hnew_; rw [Int.toNat_natCast, ← cntL_nil] at ho; have HO := Aside0.mk ho; have HXS := Aside0.mk hb; clear ho hb HXm))
      go_loopg [314] P.length (fun gg v314 wr => ∃ i : Nat, v314 = .int .i64 (i : Int) ∧ i ≤ P.length ∧ P.length - i ≤ gg ∧ Aside0 (Kd.R (Kd.int .i64) 3 wr wB.heap.size (fun _ => True) vS (cntL l.length (P.take i).flatten)) ∧ Aside0 (Below wB.heap.size wB wr))
      case atStart => exact ⟨0, rfl, Nat.zero_le _, by omega, HO, HXS⟩
      case round =>
       clear HO HXS
       obtain ⟨i, rfl, hi, hmi, HO, HX⟩ := hrel
       by_cases hir : i < P.length
       ·as_aux_lemma =>
        have c1b : decide ((i : Int) < (P.length : Int)) = true := decide_eq_true (by omega)
        obtain ⟨ad7, AR, cR, hA7, m0w, hle0, hC0⟩ := at_L3 (HF2.out _ (Below.refl _ _)).2.1 (i : Int) (by omega) (by omega)
        subst hA7
        rw [Int.toNat_natCast] at m0w
        obtain ⟨a, c, hp⟩ := OK.out.pair i hir
        have htk := take_row P i hir
        rw [hp.is] at m0w hle0 hC0 htk
        obtain ⟨hac, hcl⟩ := hp.lt
        have m0 : wr.cell? (ad7.add i) = some (.slice AR 2 cR) := (HX.out.cell (World.block_lt_of_cell? _ _ m0w)).trans m0w
        obtain ⟨aR, e0, z0⟩ := Kd.at_int hC0 0 (by simp) (by simp)
        obtain ⟨aR', e1, z1⟩ := Kd.at_int hC0 1 (by simp) (by simp)
        subst e0
        obtain rfl : aR = aR' := by injection e1
        simp only [show (0 : Int).toNat = 0 from rfl, Addr.add_zero', show rd [(a : Int), (c : Int)] 0 = (a : Int) from rfl] at z0
        simp only [show (1 : Int).toNat = 1 from rfl, show rd [(a : Int), (c : Int)] 1 = (c : Int) from rfl] at z1
        replace z1 : wB.cell? ⟨aR.block, aR.off + 1, none⟩ = some (.int .i64 (c : Int)) := z1
        have HZ0 := Aside0.mk (fun (W : World) (hb : Below wB.heap.size wB W) => (hb.cell (World.block_lt_of_cell? _ _ z0)).trans z0)
        have HZ1 := Aside0.mk (fun (W : World) (hb : Below wB.heap.size wB W) => (hb.cell (World.block_lt_of_cell? _ _ z1)).trans z1)
        obtain ⟨a6, e6, y0, y1⟩ := at_T44 (HF2.out _ (Below.refl _ _)).1 (a : Int) (by omega) (by omega)
        obtain ⟨a6', e6', y2, y3⟩ := at_T44 (HF2.out _ (Below.refl _ _)).1 (c : Int) (by omega) (by omega)
        subst e6
        obtain rfl : a6 = a6' := by injection e6'
        rw [Int.toNat_natCast] at y0 y1 y2 y3
        have HA0 := Aside0.mk (fun (W : World) (hb : Below wB.heap.size wB W) => (hb.cell (World.block_lt_of_cell? _ _ y0)).trans y0)
        have HA1 := Aside0.mk (fun (W : World) (hb : Below wB.heap.size wB W) => (hb.cell (World.block_lt_of_cell? _ _ y1)).trans y1)
        have HC0 := Aside0.mk (fun (W : World) (hb : Below wB.heap.size wB W) => (hb.cell (World.block_lt_of_cell? _ _ y2)).trans y2)
        have HC1 := Aside0.mk (fun (W : World) (hb : Below wB.heap.size wB W) => (hb.cell (World.block_lt_of_cell? _ _ y3)).trans y3)
        have HTK := Aside0.mk htk
        have HCR := Aside0.mk hp.cr
        have HSD := Aside0.mk hp.sd
        clear m0w z0 z1 y0 y1 y2 y3 hC0 htk e1 e6'
        go_upto_region 27 with (fail)
        clear m0
        go_cut [329] from 318 to 328 (fun v329 wx => v329 = .bool false ∧ Aside0 (Kd.R (Kd.int .i64) 3 wx wB.heap.size (fun _ => True) vS (cntL l.length (P.take i).flatten)) ∧ Aside0 (Below wB.heap.size wB wx))
        case first =>
         as_aux_lemma =>
          have q0 : decide ((a : Int) ≥ (c : Int)) = false := decide_eq_false (by omega)
          have HXd := Aside0.mk (below_drew1 HX.out)
          refine start_ (n := 12) (S := fun w' => w'.cell? aR = some (.int .i64 (a : Int)) ∧ w'.cell? ⟨aR.block, aR.off + 1, none⟩ = some (.int .i64 (c : Int))) (ds := []) #[false, false, false, false, false, false, false, false, false, false, false, false] (by kernel_rfl) rfl rfl ⟨(HZ0.out _ HXd.out), (HZ1.out _ HXd.out)⟩ (fun hHeld => ?_)
          refine pu_ 0 (some 318) ?_
          refine pu_ 1 (some 319) ?_
          refine pu_ 2 (some 320) ?_
          refine pu_ 3 (some 321) ?_
          refine pu_ 4 (some 322) ?_
          refine pu_ 5 (some 323) ?_
          refine pu_ 7 (some 325) ?_
          refine pu_ 8 (some 326) ?_
          refine ta2_ 6 (some 324) hHeld ?_
          refine ta2_ 9 (some 327) hHeld ?_
          refine pu_ 10 (some 328) ?_
          refine pu_ 11 (some 329) ?_
          refine done_ (by kernel_rfl) ?_
          go_wp2_with fail
          go_meet
          case rel => exact ⟨congrArg Value.bool (decide_eq_false (by omega)), ⟨Kd.R_drew HO.out⟩, HXd⟩
        case rest =>
         as_aux_lemma =>
         clear HX HO
         obtain ⟨rfl, HO, HX⟩ := hcut
         go_upto_region 29 with (fail)
         go_cut [38, 39] from 330 to 346 (fun v38 v39 wx => v38 = .bool true ∧ v39 = .bool true ∧ Aside0 (Kd.R (Kd.int .i64) 3 wx wB.heap.size (fun _ => True) vS (cntL l.length (P.take i).flatten)) ∧ Aside0 (Below wB.heap.size wB wx))
         case first =>
          as_aux_lemma =>
          have HXd := Aside0.mk (below_drew1 HX.out)
          have p1 : (0 ≤ (a : Int)) = True := eq_true (by omega)
          have p2 : (0 ≤ (c : Int)) = True := eq_true (by omega)
          have p3 : ((a : Int) < (l.length : Int)) = True := eq_true (by omega)
          have p4 : ((c : Int) < (l.length : Int)) = True := eq_true (by omega)
          refine start_ (n := 19) (S := fun w' => w'.cell? aR = some (.int .i64 (a : Int)) ∧ w'.cell? ⟨aR.block, aR.off + 1, none⟩ = some (.int .i64 (c : Int)) ∧ w'.cell? (a6.add (a * 2)) = some (.int .i64 (rd_T44 l (a : Int)).f0) ∧ w'.cell? ⟨(a6.add (a * 2)).block, (a6.add (a * 2)).off + 1, none⟩ = some (.int .i64 (rd_T44 l (a : Int)).f1) ∧ w'.cell? (a6.add (c * 2)) = some (.int .i64 (rd_T44 l (c : Int)).f0) ∧ w'.cell? ⟨(a6.add (c * 2)).block, (a6.add (c * 2)).off + 1, none⟩ = some (.int .i64 (rd_T44 l (c : Int)).f1)) (ds := []) #[false, false, false, false, false, false, false, false, false, false, false, false, false, false, false, false, false, false, false] (by kernel_rfl) rfl rfl ⟨(HZ0.out _ HXd.out), (HZ1.out _ HXd.out), (HA0.out _ HXd.out), (HA1.out _ HXd.out), (HC0.out _ HXd.out), (HC1.out _ HXd.out)⟩ (fun hHeld => ?_)
          refine pu_ 0 (some 331) ?_
          refine pu_ 1 (some 332) ?_
          refine pu_ 2 (some 333) ?_
          refine pu_ 3 (some 334) ?_
          refine pu_ 7 (some 338) ?_
          refine pu_ 8 (some 339) ?_
          refine pu_ 9 (some 340) ?_
          refine ta6_ 4 (some 335) hHeld ?_
          refine pu_ 5 (some 336) ?_
          refine ta6_ 6 (some 337) hHeld ?_
          refine ta6_ 10 (some 341) hHeld ?_
          refine pu_ 11 (some 342) ?_
          refine ta6_ 12 (some 343) hHeld ?_
          refine one_ (i := 13) (N := some 344) #[true, true, true, true, true, true, true, true, true, true, true, true, true, true, false, false, false, false, false] rfl rfl (by kernel_rfl) (by decide) (fun K hK => ?_)
          refine goes_ Tryz.func24 (by kernel_rfl) rfl #[.int .i64 n, .agg #[.int .i64 (rd_T44 l (a : Int)).f0, .int .i64 (rd_T44 l (a : Int)).f1], .agg #[.int .i64 (rd_T44 l (c : Int)).f0, .int .i64 (rd_T44 l (c : Int)).f1]] (by rfl) rfl rfl (by simp only [List.map_toArray, List.map_cons, List.map_nil]; rfl) ?_
          with_reducible refine (impl_AreCrossing.calls n _ _ _ _ true true _ HCR.out).mono ?_
          rintro e wy ⟨rfl, hb⟩
          refine ⟨_, rfl, ?_⟩
          have HXy := Aside0.mk (below_step HXd.out hb)
          have HOy := Aside0.mk (Kd.R_below (Kd.R_drew HO.out) hb)
          clear hb
          refine hK.out _ _ ⟨(HZ0.out _ HXy.out), (HZ1.out _ HXy.out), (HA0.out _ HXy.out), (HA1.out _ HXy.out), (HC0.out _ HXy.out), (HC1.out _ HXy.out)⟩ (fun hHeld => ?_)
          clear hK K
          refine nm_ (some 344) ?_
          refine pu_ 14 (some 330) ?_
          refine pu_ 15 (some 345) ?_
          refine pu_ 16 (some 346) ?_
          refine pu_ 17 (some 38) ?_
          refine pu_ 18 (some 39) ?_
          refine done_ (by kernel_rfl) ?_
          go_wp2_with fail
          go_meet
          case rel => exact ⟨rfl, rfl, HOy, HXy⟩
         case rest =>
          as_aux_lemma =>
          clear HX HO
          obtain ⟨rfl, rfl, HO, HX⟩ := hcut
          go_upto_region 30 with (fail)
          go_cut [368] from 347 to 367 (fun v368 wx => v368 = .bool false ∧ Aside0 (Kd.R (Kd.int .i64) 3 wx wB.heap.size (fun _ => True) vS (cntL l.length (P.take i).flatten)) ∧ Aside0 (Below wB.heap.size wB wx))
          case first =>
           as_aux_lemma =>
           have HXd := Aside0.mk (below_drew1 HX.out)
           cases y7 with
           | true =>
           obtain ⟨t0, t1, hne⟩ := HSD.out rfl
           have p1 : (0 ≤ (a : Int)) = True := eq_true (by omega)
           have p2 : (0 ≤ (c : Int)) = True := eq_true (by omega)
           have p3 : ((a : Int) < (T.size : Int)) = True := eq_true (by omega)
           have p4 : ((c : Int) < (T.size : Int)) = True := eq_true (by omega)
           have p5 : (((T[a]'t0).toNat : Int) == ((T[c]'t1).toNat : Int)) = false := beq_eq_false_iff_ne.2 hne
           refine start_ (n := 22) (S := fun w' => w'.cell? aR = some (.int .i64 (a : Int)) ∧ w'.cell? ⟨aR.block, aR.off + 1, none⟩ = some (.int .i64 (c : Int))) (ds := []) #[false, false, false, false, false, false, false, false, false, false, false, false, false, false, false, false, false, false, false, false, false, false] (by kernel_rfl) rfl rfl ⟨(HZ0.out _ HXd.out), (HZ1.out _ HXd.out)⟩ (fun hHeld => ?_)
           refine pu_ 0 (some 347) ?_
           refine pu_ 1 (some 348) ?_
           refine pu_ 2 (some 349) ?_
           refine pu_ 3 (some 350) ?_
           refine pu_ 4 (some 351) ?_
           refine pu_ 5 (some 352) ?_
           refine pu_ 6 (some 353) ?_
           refine pu_ 7 (some 354) ?_
           refine pu_ 8 (some 355) ?_
           refine pu_ 9 (some 356) ?_
           refine pu_ 10 (some 357) ?_
           refine pu_ 11 (some 358) ?_
           refine pu_ 14 (some 361) ?_
           refine pu_ 15 (some 362) ?_
           refine pu_ 16 (some 363) ?_
           refine ta2_ 12 (some 359) hHeld ?_
           refine ta2_ 13 (some 360) hHeld ?_
           refine ta2_ 17 (some 364) hHeld ?_
           refine ta2_ 18 (some 365) hHeld ?_
           refine pu_ 19 (some 366) ?_
           refine pu_ 20 (some 367) ?_
           refine pu_ 21 (some 368) ?_
           refine done_ (by kernel_rfl) ?_
           go_wp2_with fail
           go_meet
           case rel => exact ⟨rfl, ⟨Kd.R_drew HO.out⟩, HXd⟩
           | false =>
           refine start_ (n := 22) (S := fun w' => w'.cell? aR = some (.int .i64 (a : Int)) ∧ w'.cell? ⟨aR.block, aR.off + 1, none⟩ = some (.int .i64 (c : Int))) (ds := []) #[false, false, false, false, false, false, false, false, false, false, false, false, false, false, false, false, false, false, false, false, false, false] (by kernel_rfl) rfl rfl ⟨(HZ0.out _ HXd.out), (HZ1.out _ HXd.out)⟩ (fun hHeld => ?_)
           refine pu_ 0 (some 347) ?_
           refine pu_ 1 (some 348) ?_
           refine pu_ 2 (some 349) ?_
           refine pu_ 3 (some 350) ?_
           refine pu_ 4 (some 351) ?_
           refine pu_ 5 (some 352) ?_
           refine pu_ 6 (some 353) ?_
           refine pu_ 7 (some 354) ?_
           refine pu_ 8 (some 355) ?_
           refine pv_ 9 (some 356) ?_
           refine pv_ 10 (some 357) ?_
           refine pv_ 11 (some 358) ?_
           refine pv_ 12 (some 359) ?_
           refine pv_ 13 (some 360) ?_
           refine pv_ 14 (some 361) ?_
           refine pv_ 15 (some 362) ?_
           refine pv_ 16 (some 363) ?_
           refine pv_ 17 (some 364) ?_
           refine pv_ 18 (some 365) ?_
           refine pv_ 19 (some 366) ?_
           refine pu_ 20 (some 367) ?_
           refine pu_ 21 (some 368) ?_
           refine done_ (by kernel_rfl) ?_
           go_wp2_with fail
           go_meet
           case rel => exact ⟨rfl, ⟨Kd.R_drew HO.out⟩, HXd⟩
          case rest =>
           as_aux_lemma =>
           clear HX HO
           obtain ⟨rfl, HO, HX⟩ := hcut
           have hL2 := pairs_len P (fun q hq => by obtain ⟨a, c, h⟩ := OK.out.pair q hq; rw [h.is]; rfl) i (by omega)
           obtain ⟨L, hL⟩ : ∃ L, (P.take i).flatten = L := ⟨_, rfl⟩
           have HTK2 := Aside0.mk (show (P.take (i + 1)).flatten = L ++ [(a : Int)] ++ [(c : Int)] by rw [HTK.out, hL, List.append_assoc]; rfl)
           rw [hL] at HO hL2
           clear hL
           obtain ⟨g, cap, hv, hg1, _⟩ := Kd.R_form HO.out (by rw [cntL_len]; omega)
           rw [cntL_len] at hv
           subst hv
           have hcl_ := cntL_len l.length (L)
           have hxr := cntL_rd l.length (L) (a : Int) (by omega) (by omega)
           have hpt := cntL_put l.length (L) (a : Int) (by omega) (by omega)
           obtain ⟨hcg, hfg⟩ := Kd.R_celln (0 : Int) HO.out (a : Int) (by omega) (by omega)
           have hrd : rdOf (0 : Int) (cntL l.length (L)) (a : Int) = (((L).count (a : Int) : Nat) : Int) := hxr
           rw [hrd] at hcg
           have hct := List.count_le_length (a := (a : Int)) (l := L)
           have hll : (L).length ≤ 9000 := by first | omega | (simp only [List.length_append, List.length_cons, List.length_nil]; omega)
           obtain ⟨k, hk⟩ : ∃ k, (((L).count (a : Int) : Nat) : Int) = k := ⟨_, rfl⟩
           rw [hk] at hcg hpt
           have hwc : wrap64 (k + 1) = k + 1 := by unfold wrap64; omega
           have HP := Kd.R_putg HO.out (a : Int) (k + 1)
           rw [hpt] at HP
           simp only [Int.toNat_natCast] at hcg hfg HP
           have HP1 := Aside0.mk HP.1
           have HX3 := Aside0.mk (show Below wB.heap.size wB (wc.setCell ⟨g, a, none⟩ (.int .i64 (k + 1))) from below_set HX.out hg1)
           have z0 := HZ0.out _ HX.out
           have p1 : (0 ≤ (a : Int)) = True := eq_true (by omega)
           have p2 : ((a : Int) < (l.length : Int)) = True := eq_true (by omega)
           clear hcl_ hxr hpt hrd hct hll hk HP
           go_upto_region 33 with (first | ((with_reducible refine gate_store (t := 3) (p := 376) rfl ?_); refine store_event (t := 3) (p := 376) (v := ?vo_) (w1 := (wc.setCell ⟨g, a, none⟩ (.int .i64 (k + 1)))) ?hg ?ho ?hn ?hr ?_; (case ho => rfl); (case hg => rfl); (case hn => rfl); (case hr => first | (go_simp; done) | (go_simp; rfl)); intro wz0 hw; have n0_ := Aside0.mk (show Kd.R (Kd.int .i64) 3 wz0 wB.heap.size (fun _ => True) (.slice (some ⟨g, 0, none⟩) l.length cap) (cntL l.length (L ++ [(a : Int)])) by rw [hw]; exact HP1.out); have n1_ := Aside0.mk (show Below wB.heap.size wB wz0 by rw [hw]; exact HX3.out); clear hw hcg hfg hwc z0 p1 p2 HP1 HX3 HO HX))
           have HO := n0_
           have HX := n1_
           clear n0_ n1_
           have hcl_ := cntL_len l.length (L ++ [(a : Int)])
           have hxr := cntL_rd l.length (L ++ [(a : Int)]) (c : Int) (by omega) (by omega)
           have hpt := cntL_put l.length (L ++ [(a : Int)]) (c : Int) (by omega) (by omega)
           obtain ⟨hcg, hfg⟩ := Kd.R_celln (0 : Int) HO.out (c : Int) (by omega) (by omega)
           have hrd : rdOf (0 : Int) (cntL l.length (L ++ [(a : Int)])) (c : Int) = (((L ++ [(a : Int)]).count (c : Int) : Nat) : Int) := hxr
           rw [hrd] at hcg
           have hct := List.count_le_length (a := (c : Int)) (l := L ++ [(a : Int)])
           have hll : (L ++ [(a : Int)]).length ≤ 9000 := by first | omega | (simp only [List.length_append, List.length_cons, List.length_nil]; omega)
           obtain ⟨k, hk⟩ : ∃ k, (((L ++ [(a : Int)]).count (c : Int) : Nat) : Int) = k := ⟨_, rfl⟩
           rw [hk] at hcg hpt
           have hwc : wrap64 (k + 1) = k + 1 := by unfold wrap64; omega
           have HP := Kd.R_putg HO.out (c : Int) (k + 1)
           rw [hpt] at HP
           simp only [Int.toNat_natCast] at hcg hfg HP
           have HP1 := Aside0.mk HP.1
           have HX3 := Aside0.mk (show Below wB.heap.size wB (wz0.setCell ⟨g, c, none⟩ (.int .i64 (k + 1))) from below_set HX.out hg1)
           have z0 := HZ1.out _ HX.out
           have p1 : (0 ≤ (c : Int)) = True := eq_true (by omega)
           have p2 : ((c : Int) < (l.length : Int)) = True := eq_true (by omega)
           clear hcl_ hxr hpt hrd hct hll hk HP
           go_wp2_with (((with_reducible refine gate_store (t := 3) (p := 384) rfl ?_); refine store_event (t := 3) (p := 384) (v := ?vo2_) (w1 := (wz0.setCell ⟨g, c, none⟩ (.int .i64 (k + 1)))) ?hg ?ho ?hn ?hr ?_; (case ho => rfl); (case hg => rfl); (case hn => rfl); (case hr => first | (go_simp; done) | (go_simp; rfl)); intro wz1 hw; have n0_ := Aside0.mk (show Kd.R (Kd.int .i64) 3 wz1 wB.heap.size (fun _ => True) (.slice (some ⟨g, 0, none⟩) l.length cap) (cntL l.length (L ++ [(a : Int)] ++ [(c : Int)])) by rw [hw]; exact HP1.out); have n1_ := Aside0.mk (show Below wB.heap.size wB wz1 by rw [hw]; exact HX3.out); clear hw hcg hfg hwc z0 p1 p2 HP1 HX3 HO HX))
           go_roundg (P.length - (i + 1))
           case measure => omega
           case rel => exact ⟨i + 1, by go_num, by omega, Nat.le_refl _, ⟨by rw [HTK2.out]; exact n0_.out⟩, n1_⟩
       ·as_aux_lemma =>
        obtain rfl : i = P.length := by omega
        have c1b : decide ((P.length : Int) < (P.length : Int)) = false := decide_eq_false (by omega)
        have HO1 := Aside0.mk (show Kd.R (Kd.int .i64) 3 wr wB.heap.size (fun _ => True) vS (cntL l.length P.flatten) by
         have h := HO.out
         rw [List.take_length] at h
         exact h)
        have htl := cntL_len l.length P.flatten
        have HM := Aside0.mk OK.out.most
        generalize cntL l.length P.flatten = tm at HO1 htl HM
        have HTL := Aside0.mk htl
        have hb60 : tm.length ≤ 60 := by omega
        clear htl
        clear HO
        rename World => wT
        obtain ⟨A35, c35, rfl⟩ := Kd.R_slice HO1.out
        obtain ⟨_, htc, hCT⟩ := Kd.R_reads' HO1.out
        have HF3 := Aside0.mk (fun (W : World) (hb : Below wT.heap.size wT W) => (⟨Kd.C_below hCT hb, (HF2.out _ (below_step HX.out hb)).2.1, (HF2.out _ (below_step HX.out hb)).2.2.1, (HF2.out _ (below_step HX.out hb)).2.2.2⟩ : Kd.C (Kd.int .i64) W A35 tm.length tm ∧ Kd.C (Kd.slice 3 (Kd.int .i64)) W A7 P.length P ∧ Kd.C (Kd.slice 3 (Kd.int .i64)) W A19 G.length G ∧ Below w16.heap.size w16 W))
        have HX2 := Aside0.mk (Below.refl wT.heap.size wT)
        clear HX HO1 hCT HF2
        go_wp2_with fail
        go_loopg [388] tm.length (fun gg v388 wr => ∃ i : Nat, v388 = .int .i64 (i : Int) ∧ i ≤ tm.length ∧ tm.length - i ≤ gg ∧ Aside0 (Below wT.heap.size wT wr))
        case atStart => exact ⟨0, rfl, Nat.zero_le _, by omega, HX2⟩
        case round =>
         clear HX2 c1b
         obtain ⟨i, rfl, hi, hmi, HX⟩ := hrel
         by_cases hir : i < tm.length
         ·as_aux_lemma =>
          have c1b : decide ((i : Int) < (tm.length : Int)) = true := decide_eq_true (by omega)
          obtain ⟨aT, eT, zT⟩ := Kd.at_int (HF3.out _ (Below.refl _ _)).1 (i : Int) (by omega) (by omega)
          subst eT
          rw [Int.toNat_natCast] at zT
          have HZ := Aside0.mk (fun (W : World) (hb : Below wT.heap.size wT W) => (hb.cell (World.block_lt_of_cell? _ _ zT)).trans zT)
          clear zT
          have hx := HZ.out _ HX.out
          obtain ⟨x, hxe⟩ : ∃ x, rd tm (i : Int) = x := ⟨_, rfl⟩
          rw [hxe] at hx
          go_upto_region 38 with (fail)
          clear hx
          go_cut [400] from 392 to 399 (fun v400 wx => v400 = .bool false ∧ Aside0 (Below wT.heap.size wT wx))
          case first =>
           as_aux_lemma =>
           cases y11 with
           | false =>
            go_wp2_with fail
            go_meet
            case rel => exact ⟨rfl, HX⟩
           | true =>
            obtain ⟨m0, m1, m2⟩ := HM.out rfl
            have htl := HTL.out
            have m3 := m2 i (by omega)
            rw [hxe] at m3
            obtain ⟨aT', eT', zT⟩ := Kd.at_int (HF3.out _ HX.out).1 best (by omega) (by omega)
            obtain rfl : aT = aT' := by injection eT'
            have d1 : (0 ≤ best) = True := eq_true m0
            have d2 : (best < (tm.length : Int)) = True := eq_true (by omega)
            generalize rd tm best = y at m3 zT
            have d3 : decide (x > y) = false := decide_eq_false (by omega)
            clear m0 m1 m2 eT' htl
            go_wp2_with fail
            go_meet
            case rel => exact ⟨rfl, HX⟩
          case rest =>
           as_aux_lemma =>
           clear HX
           obtain ⟨rfl, HX⟩ := hcut
           go_wp2_with fail
           go_roundg (tm.length - (i + 1))
           case measure => omega
           case rel => exact ⟨i + 1, by go_num, by omega, Nat.le_refl _, HX⟩
         ·as_aux_lemma =>
          obtain rfl : i = tm.length := by omega
          have c1b : decide ((tm.length : Int) < (tm.length : Int)) = false := decide_eq_false (by omega)
          go_wp2_with fail
          go_loopg [42, 404] G.length (fun gg v42 v404 wr => ∃ i s : Nat, v404 = .int .i64 (i : Int) ∧ v42 = .int .i64 (s : Int) ∧ Aside0 (s = (G.take i).flatten.length) ∧ i ≤ G.length ∧ G.length - i ≤ gg ∧ Aside0 (Below wT.heap.size wT wr))
          case atStart => exact ⟨0, 0, rfl, rfl, ⟨rfl⟩, Nat.zero_le _, by omega, HX⟩
          case round =>
           clear HX c1b
           obtain ⟨i, s, rfl, rfl, HS, hi, hmi, HX⟩ := hrel
           by_cases hir : i < G.length
           ·as_aux_lemma =>
            have c1b : decide ((i : Int) < (G.length : Int)) = true := decide_eq_true (by omega)
            obtain ⟨ad19, AG, cG, hA, m0w, hleG, hCG⟩ := at_L3 (HF3.out _ (Below.refl _ _)).2.2.1 (i : Int) (by omega) (by omega)
            subst hA
            rw [Int.toNat_natCast] at m0w
            have htk := take_row G i hir
            have hg := OK.out.group i hir
            have hlen := hg.len
            have hri := hg.rises
            have hfi := hg.first
            have hsd := hg.side
            have hbo := hg.both
            have hsb := take_flat_le G i
            rw [OK.out.all, ← HS.out] at hsb
            obtain ⟨gr, hgr⟩ : ∃ gr, rd_L3 G (i : Int) = gr := ⟨_, rfl⟩
            rw [hgr] at m0w hleG hCG htk hlen hri hfi hsd
            simp only [hgr] at hbo
            obtain ⟨hg1, hg60⟩ := hlen
            obtain ⟨aG, eG, zG⟩ := Kd.at_int hCG 0 (by omega) (by omega)
            subst eG
            simp only [show (0 : Int).toNat = 0 from rfl, Addr.add_zero'] at zG
            generalize rd gr 0 = g0 at zG hfi hsd
            have HZG := Aside0.mk (fun (W : World) (hb : Below wT.heap.size wT W) => (hb.cell (World.block_lt_of_cell? _ _ zG)).trans zG)
            have m0 : wr.cell? (ad19.add i) = some (.slice (some aG) gr.length cG) := (HX.out.cell (World.block_lt_of_cell? _ _ m0w)).trans m0w
            have HCG := Aside0.mk hCG
            have HRI := Aside0.mk hri
            have HFI := Aside0.mk hfi
            have HSD := Aside0.mk hsd
            have HBO := Aside0.mk hbo
            have HTK := Aside0.mk htk
            clear hCG hri hfi hsd hbo htk hg zG m0w hgr
            go_upto_region 45 with (fail)
            clear m0
            go_cut [444] from 409 to 443 (fun v444 wx => v444 = .bool false ∧ Aside0 (Below wT.heap.size wT wx))
            case first =>
             as_aux_lemma =>
              have HXd := Aside0.mk (below_drew1 HX.out)
              have d0 : ((gr.length : Int) == 0) = false := beq_eq_false_iff_ne.2 (by omega)
              have HT7 := Aside0.mk (fun (h : y7 = true) => HSD.out h)
              obtain ⟨p, hp⟩ : ∃ p : Nat, p = i - 1 := ⟨_, rfl⟩
              obtain ⟨hgp, _⟩ := (OK.out.group p (by omega)).len
              have hlt : 0 < i → rd (rd_L3 G (p : Int)) 0 < g0 := by rw [hp]; exact fun h => (HFI.out h).2
              obtain ⟨ad', AP, cP, hA', mPw, hleP, hCP⟩ := at_L3 (HF3.out _ (Below.refl _ _)).2.2.1 (p : Int) (by omega) (by omega)
              obtain rfl : ad19 = ad' := by injection hA'
              rw [Int.toNat_natCast] at mPw
              obtain ⟨gp, hgpe⟩ : ∃ gp, rd_L3 G (p : Int) = gp := ⟨_, rfl⟩
              rw [hgpe] at hgp hlt mPw hleP hCP
              obtain ⟨aP, eP, zP⟩ := Kd.at_int hCP 0 (by omega) (by omega)
              subst eP
              simp only [show (0 : Int).toNat = 0 from rfl, Addr.add_zero'] at zP
              generalize rd gp 0 = gp0 at zP hlt
              have HZP := Aside0.mk (fun (W : World) (hb : Below wT.heap.size wT W) => (hb.cell (World.block_lt_of_cell? _ _ mPw)).trans mPw)
              have HZQ := Aside0.mk (fun (W : World) (hb : Below wT.heap.size wT W) => (hb.cell (World.block_lt_of_cell? _ _ zP)).trans zP)
              have d2 : (0 ≤ (p : Int)) = True := eq_true (by omega)
              have d3 : ((p : Int) < (G.length : Int)) = True := eq_true (by omega)
              have HLT := Aside0.mk hlt
              have HP := Aside0.mk hp
              clear hCP mPw zP hA' hgpe hlt hp
              refine start_ (n := 36) (S := fun w' => w'.cell? aG = some (.int .i64 g0) ∧ w'.cell? (ad19.add p) = some (.slice (some aP) gp.length cP) ∧ w'.cell? aP = some (.int .i64 gp0)) (ds := []) #[false, false, false, false, false, false, false, false, false, false, false, false, false, false, false, false, false, false, false, false, false, false, false, false, false, false, false, false, false, false, false, false, false, false, false, false] (by kernel_rfl) rfl rfl ⟨(HZG.out _ HXd.out), (HZP.out _ HXd.out), (HZQ.out _ HXd.out)⟩ (fun hHeld => ?_)
              refine pu_ 0 (some 409) ?_
              refine pu_ 1 (some 410) ?_
              refine pu_ 2 (some 411) ?_
              refine pu_ 3 (some 412) ?_
              refine pu_ 4 (some 413) ?_
              refine one_ (i := 5) (N := some 414) #[true, true, true, true, true, true, false, false, false, false, false, false, false, false, false, false, false, false, false, false, false, false, false, false, false, false, false, false, false, false, false, false, false, false, false, false] rfl rfl (by kernel_rfl) (by decide) (fun K hK => ?_)
              refine goes_ Tryz.func25 (by kernel_rfl) rfl #[.slice (some aG) gr.length cG] (by rfl) rfl rfl (by simp only [List.map_toArray, List.map_cons, List.map_nil]; rfl) ?_
              with_reducible refine (laws_gRises.calls KF (some aG) cG gr true _ (Kd.C_below HCG.out HXd.out) hleG HRI.out).mono ?_
              rintro e wy ⟨rfl, ⟨⟨nn, rfl⟩⟩⟩
              refine ⟨_, rfl, ?_⟩
              have HXy := Aside0.mk (pw_below_drewN HXd.out nn)
              generalize World.drewN _ nn = wy at HXy ⊢
              refine hK.out _ _ ⟨(HZG.out _ HXy.out), (HZP.out _ HXy.out), (HZQ.out _ HXy.out)⟩ (fun hHeld => ?_)
              clear hK K
              refine nm_ (some 414) ?_
              refine pu_ 6 (some 415) ?_
              refine pu_ 7 (some 416) ?_
              refine pu_ 8 (some 417) ?_
              refine pu_ 9 (some 418) ?_
              by_cases hi0 : 0 < i
              ·have d1 : decide ((i : Int) > 0) = true := decide_eq_true (by omega)
               have hlt := HLT.out hi0
               have hw : wrap64 ((i : Int) - 1) = (p : Int) := by have := HP.out; unfold wrap64; omega
               have hw2 : IntKind.i64.wrap ((i : Int) - 1) = (p : Int) := (i64_w _).trans hw
               have d4 : decide (gp0 ≥ g0) = false := decide_eq_false (by omega)
               refine pu_ 10 (some 419) ?_
               refine pu_ 11 (some 420) ?_
               refine pu_ 12 (some 421) ?_
               refine pu_ 13 (some 422) ?_
               refine pu_ 14 (some 423) ?_
               refine pu_ 15 (some 424) ?_
               refine pu_ 19 (some 428) ?_
               refine pu_ 20 (some 429) ?_
               refine ta3_ 16 (some 425) hHeld ?_
               refine pu_ 17 (some 426) ?_
               refine ta3_ 18 (some 427) hHeld ?_
               refine ta3_ 21 (some 430) hHeld ?_
               refine pu_ 22 (some 431) ?_
               refine pu_ 23 (some 432) ?_
               refine pu_ 24 (some 433) ?_
               refine pu_ 25 (some 434) ?_
               refine pu_ 26 (some 435) ?_
               refine pu_ 27 (some 436) ?_
               cases y7 with
               | true =>
                obtain ⟨t0, t1, t2⟩ := HT7.out rfl
                have d5 : (0 ≤ g0) = True := eq_true t0
                have d6 : (g0 < (T.size : Int)) = True := eq_true (by omega)
                have d7 : (((T[g0.toNat]'t1).toNat : Int) != 105) = false := by rw [t2]; rfl
                refine pu_ 28 (some 437) ?_
                refine pu_ 29 (some 438) ?_
                refine pu_ 30 (some 439) ?_
                refine ta3_ 31 (some 440) hHeld ?_
                refine ta3_ 32 (some 441) hHeld ?_
                refine pu_ 33 (some 442) ?_
                refine pu_ 34 (some 443) ?_
                refine pu_ 35 (some 444) ?_
                refine done_ (by kernel_rfl) ?_
                go_wp2_with fail
                go_meet
                case rel => exact ⟨rfl, HXy⟩
               | false =>
                refine pv_ 28 (some 437) ?_
                refine pv_ 29 (some 438) ?_
                refine pv_ 30 (some 439) ?_
                refine pv_ 31 (some 440) ?_
                refine pv_ 32 (some 441) ?_
                refine pv_ 33 (some 442) ?_
                refine pu_ 34 (some 443) ?_
                refine pu_ 35 (some 444) ?_
                refine done_ (by kernel_rfl) ?_
                go_wp2_with fail
                go_meet
                case rel => exact ⟨rfl, HXy⟩
              ·have d1 : decide ((i : Int) > 0) = false := decide_eq_false (by omega)
               refine pu_ 10 (some 419) ?_
               refine pu_ 11 (some 420) ?_
               refine pv_ 12 (some 421) ?_
               refine pv_ 13 (some 422) ?_
               refine pv_ 14 (some 423) ?_
               refine pv_ 15 (some 424) ?_
               refine pv_ 16 (some 425) ?_
               refine pv_ 17 (some 426) ?_
               refine pv_ 18 (some 427) ?_
               refine pv_ 19 (some 428) ?_
               refine pv_ 20 (some 429) ?_
               refine pv_ 21 (some 430) ?_
               refine pv_ 22 (some 431) ?_
               refine pu_ 23 (some 432) ?_
               refine pu_ 24 (some 433) ?_
               refine pu_ 25 (some 434) ?_
               refine pu_ 26 (some 435) ?_
               refine pu_ 27 (some 436) ?_
               cases y7 with
               | true =>
                obtain ⟨t0, t1, t2⟩ := HT7.out rfl
                have d5 : (0 ≤ g0) = True := eq_true t0
                have d6 : (g0 < (T.size : Int)) = True := eq_true (by omega)
                have d7 : (((T[g0.toNat]'t1).toNat : Int) != 105) = false := by rw [t2]; rfl
                refine pu_ 28 (some 437) ?_
                refine pu_ 29 (some 438) ?_
                refine pu_ 30 (some 439) ?_
                refine ta3_ 31 (some 440) hHeld ?_
                refine ta3_ 32 (some 441) hHeld ?_
                refine pu_ 33 (some 442) ?_
                refine pu_ 34 (some 443) ?_
                refine pu_ 35 (some 444) ?_
                refine done_ (by kernel_rfl) ?_
                go_wp2_with fail
                go_meet
                case rel => exact ⟨rfl, HXy⟩
               | false =>
                refine pv_ 28 (some 437) ?_
                refine pv_ 29 (some 438) ?_
                refine pv_ 30 (some 439) ?_
                refine pv_ 31 (some 440) ?_
                refine pv_ 32 (some 441) ?_
                refine pv_ 33 (some 442) ?_
                refine pu_ 34 (some 443) ?_
                refine pu_ 35 (some 444) ?_
                refine done_ (by kernel_rfl) ?_
                go_wp2_with fail
                go_meet
                case rel => exact ⟨rfl, HXy⟩
            case rest =>
             as_aux_lemma =>
             clear HX
             obtain ⟨rfl, HX⟩ := hcut
             go_wp2_with fail
             go_loopg [451] P.length (fun gg v451 wr => ∃ j : Nat, v451 = .int .i64 (j : Int) ∧ j ≤ P.length ∧ P.length - j ≤ gg ∧ Aside0 (Below wT.heap.size wT wr))
             case atStart => exact ⟨0, rfl, Nat.zero_le _, by omega, HX⟩
             case round =>
              clear HX
              obtain ⟨j, rfl, hj, hmj, HX⟩ := hrel
              by_cases hjr : j < P.length
              ·have c2b : decide ((j : Int) < (P.length : Int)) = true := decide_eq_true (by omega)
               obtain ⟨ad7, AR, cR, hA7, m0w, hle0, hC0⟩ := at_L3 (HF3.out _ (Below.refl _ _)).2.1 (j : Int) (by omega) (by omega)
               subst hA7
               rw [Int.toNat_natCast] at m0w
               obtain ⟨a, c, hp⟩ := OK.out.pair j hjr
               obtain ⟨b0, hb0, hb1⟩ := HBO.out j hjr
               rw [hp.is] at m0w hle0 hC0 hb0 hb1
               simp only [show rd [(a : Int), (c : Int)] 0 = (a : Int) from rfl, show rd [(a : Int), (c : Int)] 1 = (c : Int) from rfl] at hb0 hb1
               have m0 : wr.cell? (ad7.add j) = some (.slice AR 2 cR) := (HX.out.cell (World.block_lt_of_cell? _ _ m0w)).trans m0w
               obtain ⟨aR, e0, z0⟩ := Kd.at_int hC0 0 (by simp) (by simp)
               obtain ⟨aR', e1, z1⟩ := Kd.at_int hC0 1 (by simp) (by simp)
               subst e0
               obtain rfl : aR = aR' := by injection e1
               simp only [show (0 : Int).toNat = 0 from rfl, Addr.add_zero', show rd [(a : Int), (c : Int)] 0 = (a : Int) from rfl] at z0
               simp only [show (1 : Int).toNat = 1 from rfl, show rd [(a : Int), (c : Int)] 1 = (c : Int) from rfl] at z1
               replace z1 : wT.cell? ⟨aR.block, aR.off + 1, none⟩ = some (.int .i64 (c : Int)) := z1
               have HZ0 := Aside0.mk (fun (W : World) (hb : Below wT.heap.size wT W) => (hb.cell (World.block_lt_of_cell? _ _ z0)).trans z0)
               have HZ1 := Aside0.mk (fun (W : World) (hb : Below wT.heap.size wT W) => (hb.cell (World.block_lt_of_cell? _ _ z1)).trans z1)
               have HB0 := Aside0.mk hb0
               have HB1 := Aside0.mk hb1
               clear m0w z0 z1 hC0 e1 hb0 hb1 hp
               go_upto_region 51 with (fail)
               clear m0
               go_cut [465] from 455 to 464 (fun v465 wx => v465 = .bool false ∧ Aside0 (Below wT.heap.size wT wx))
               case first =>
                as_aux_lemma =>
                have HXd := Aside0.mk (below_drew1 HX.out)
                have q0 : (b0 != b0) = false := by simp
                refine start_ (n := 11) (S := fun w' => w'.cell? aR = some (.int .i64 (a : Int)) ∧ w'.cell? ⟨aR.block, aR.off + 1, none⟩ = some (.int .i64 (c : Int))) (ds := []) #[false, false, false, false, false, false, false, false, false, false, false] (by kernel_rfl) rfl rfl ⟨(HZ0.out _ HXd.out), (HZ1.out _ HXd.out)⟩ (fun hHeld => ?_)
                refine pu_ 0 (some 455) ?_
                refine pu_ 1 (some 456) ?_
                refine pu_ 2 (some 457) ?_
                refine pu_ 5 (some 460) ?_
                refine pu_ 6 (some 461) ?_
                refine pu_ 7 (some 462) ?_
                refine ta2_ 3 (some 458) hHeld ?_
                refine ta2_ 8 (some 463) hHeld ?_
                refine one_ (i := 4) (N := some 459) #[true, true, true, true, true, true, true, true, true, false, false] rfl rfl (by kernel_rfl) (by decide) (fun K hK => ?_)
                refine goes_ Tryz.func26 (by kernel_rfl) rfl #[.slice (some aG) gr.length cG, .int .i64 (a : Int)] (by rfl) rfl rfl (by simp only [List.map_toArray, List.map_cons, List.map_nil]; rfl) ?_
                with_reducible refine (laws_gHas.calls KF (some aG) cG gr (a : Int) b0 _ (Kd.C_below HCG.out HXd.out) hleG HB0.out).mono ?_
                rintro e wy0 ⟨rfl, ⟨⟨nn, rfl⟩⟩⟩
                refine ⟨_, rfl, ?_⟩
                have HXy0 := Aside0.mk (pw_below_drewN HXd.out nn)
                generalize World.drewN _ nn = wy0 at HXy0 ⊢
                refine hK.out _ _ ⟨(HZ0.out _ HXy0.out), (HZ1.out _ HXy0.out)⟩ (fun hHeld => ?_)
                clear hK K
                refine nm_ (some 459) ?_
                refine one_ (i := 9) (N := some 464) #[true, true, true, true, true, true, true, true, true, true, false] rfl rfl (by kernel_rfl) (by decide) (fun K hK => ?_)
                refine goes_ Tryz.func26 (by kernel_rfl) rfl #[.slice (some aG) gr.length cG, .int .i64 (c : Int)] (by rfl) rfl rfl (by simp only [List.map_toArray, List.map_cons, List.map_nil]; rfl) ?_
                with_reducible refine (laws_gHas.calls KF (some aG) cG gr (c : Int) b0 _ (Kd.C_below HCG.out HXy0.out) hleG HB1.out).mono ?_
                rintro e wy1 ⟨rfl, ⟨⟨nn, rfl⟩⟩⟩
                refine ⟨_, rfl, ?_⟩
                have HXy1 := Aside0.mk (pw_below_drewN HXy0.out nn)
                generalize World.drewN _ nn = wy1 at HXy1 ⊢
                refine hK.out _ _ ⟨(HZ0.out _ HXy1.out), (HZ1.out _ HXy1.out)⟩ (fun hHeld => ?_)
                clear hK K
                refine nm_ (some 464) ?_
                refine pu_ 10 (some 465) ?_
                refine done_ (by kernel_rfl) ?_
                go_wp2_with fail
                go_meet
                case rel => exact ⟨rfl, HXy1⟩
               case rest =>
                as_aux_lemma =>
                clear HX
                obtain ⟨rfl, HX⟩ := hcut
                go_wp2_with fail
                go_roundg (P.length - (j + 1))
                case measure => omega
                case rel => exact ⟨j + 1, by go_num, by omega, Nat.le_refl _, HX⟩
              ·obtain rfl : j = P.length := by omega
               have c2b : decide ((P.length : Int) < (P.length : Int)) = false := decide_eq_false (by omega)
               go_wp2_with fail
               go_roundg (G.length - (i + 1))
               case measure => omega
               case rel => exact ⟨i + 1, s + gr.length, by go_num, by go_num, ⟨by rw [HTK.out, List.length_append, HS.out]⟩, by omega, Nat.le_refl _, HX⟩
           ·as_aux_lemma =>
            obtain rfl : i = G.length := by omega
            have c1b : decide ((G.length : Int) < (G.length : Int)) = false := decide_eq_false (by omega)
            have hs := HS.out
            rw [List.take_length, OK.out.all] at hs
            subst hs
            have hcn := OK.out.cn
            have hmany := OK.out.many
            have d1 : ((l.length : Int) != (l.length : Int)) = false := by simp
            have hw : wrap64 ((l.length : Int) - cnt) = (l.length : Int) - cnt := by unfold wrap64; omega
            have d2 : decide ((G.length : Int) < (l.length : Int) - cnt) = false := decide_eq_false (by omega)
            have HBW := Aside0.mk (HF3.out _ HX.out).2.2.2
            clear hcn hmany HS
            go_wp2_with fail
            go_meet
            case rel => exact HBW
   case rest =>
    as_aux_lemma =>
    have HX := hcut
    clear hcut HOK
    go_upto_if 481 with (fail)
    go_cut [48] from 482 to 518 (fun _ wx => Aside0 (Below w16.heap.size w16 wx))
    case first =>
     as_aux_lemma =>
     clear hmove
     cases y9 with
     | false =>
      go_wp2_with fail
      go_meet
      case rel => exact HX
     | true =>
      have DR := Aside0.mk (HDR.out rfl)
      clear HDR
      have hP4 := DR.out.small
      go_wp2_with fail
      refine (laws_gRises.calls KF A27 c27 D true _ (HF.out _ HX.out).2.2.2.2.2.1 hl27 DR.out.rises).mono ?_
      rintro e wn ⟨rfl, ⟨⟨nn, rfl⟩⟩⟩
      have HX2 := Aside0.mk (pw_below_drewN HX.out nn)
      generalize World.drewN _ nn = wd at HX2 ⊢
      clear HX
      have hlen := DR.out.len
      have hnone := DR.out.none_
      subst hnone
      have d1 : decide ((D.length : Int) > cnt) = false := decide_eq_false (by omega)
      have d2 : (((D.length : Int) == 0) != ((D.length : Int) == 0)) = false := by simp
      clear hlen
      go_wp2_with fail
      clear d1 d2
      go_loopg [500] P.length (fun gg v500 wr => ∃ j : Nat, v500 = .int .i64 (j : Int) ∧ j ≤ P.length ∧ P.length - j ≤ gg ∧ Aside0 (Below w16.heap.size w16 wr))
      case atStart => exact ⟨0, rfl, Nat.zero_le _, by omega, HX2⟩
      case round =>
       clear HX2
       obtain ⟨j, rfl, hj, hmj, HX⟩ := hrel
       by_cases hjr : j < P.length
       ·have c2b : decide ((j : Int) < (P.length : Int)) = true := decide_eq_true (by omega)
        obtain ⟨ad7, AR, cR, hA7, m0w, hle0, hC0⟩ := at_L3 (HF.out _ (Below.refl _ _)).2.1 (j : Int) (by omega) (by omega)
        subst hA7
        rw [Int.toNat_natCast] at m0w
        obtain ⟨hl2, cv, dv, hcv, hdv, hor⟩ := DR.out.hit j hjr
        obtain ⟨pr, hpr⟩ : ∃ pr, rd_L3 P (j : Int) = pr := ⟨_, rfl⟩
        rw [hpr] at m0w hle0 hC0 hcv hdv hl2
        have m0 : wr.cell? (ad7.add j) = some (.slice AR pr.length cR) := (HX.out.cell (World.block_lt_of_cell? _ _ m0w)).trans m0w
        rw [hl2] at m0
        obtain ⟨aR, e0, z0⟩ := Kd.at_int hC0 0 (by omega) (by omega)
        obtain ⟨aR', e1, z1⟩ := Kd.at_int hC0 1 (by omega) (by omega)
        subst e0
        obtain rfl : aR = aR' := by injection e1
        simp only [show (0 : Int).toNat = 0 from rfl, Addr.add_zero'] at z0
        simp only [show (1 : Int).toNat = 1 from rfl] at z1
        generalize rd pr 0 = a at z0 hcv
        generalize rd pr 1 = c at z1 hdv
        replace z1 : w16.cell? ⟨aR.block, aR.off + 1, none⟩ = some (.int .i64 c) := z1
        have HZ0 := Aside0.mk (fun (W : World) (hb : Below w16.heap.size w16 W) => (hb.cell (World.block_lt_of_cell? _ _ z0)).trans z0)
        have HZ1 := Aside0.mk (fun (W : World) (hb : Below w16.heap.size w16 W) => (hb.cell (World.block_lt_of_cell? _ _ z1)).trans z1)
        have HCV := Aside0.mk hcv
        have HDV := Aside0.mk hdv
        clear m0w z0 z1 hC0 e1 hcv hdv hpr hl2 hle0
        go_upto_region 63 with (fail)
        clear m0
        go_cut [517] from 504 to 516 (fun v517 wx => v517 = .bool false ∧ Aside0 (Below w16.heap.size w16 wx))
        case first =>
         as_aux_lemma =>
         have z0 := HZ0.out _ HX.out
         go_wp2_with fail
         refine (laws_gHas.calls KF A27 c27 D a cv _ (HF.out _ HX.out).2.2.2.2.2.1 hl27 HCV.out).mono ?_
         rintro e wn ⟨rfl, ⟨⟨nn, rfl⟩⟩⟩
         clear z0
         replace HX := Aside0.mk (pw_below_drewN HX.out nn)
         generalize World.drewN _ nn = wd2 at HX ⊢
         cases cv with
         | true =>
          go_wp2_with fail
          go_meet
          case rel => exact ⟨rfl, HX⟩
         | false =>
          have z1 := HZ1.out _ HX.out
          go_wp2_with fail
          refine (laws_gHas.calls KF A27 c27 D c dv _ (HF.out _ HX.out).2.2.2.2.2.1 hl27 HDV.out).mono ?_
          rintro e wn ⟨rfl, ⟨⟨nn, rfl⟩⟩⟩
          replace HX := Aside0.mk (pw_below_drewN HX.out nn)
          generalize World.drewN _ nn = wd3 at HX ⊢
          obtain rfl : dv = true := by rcases hor with h | h; exact absurd h (by decide); exact h
          go_wp2_with fail
          go_meet
          case rel => exact ⟨rfl, HX⟩
        case rest =>
         as_aux_lemma =>
         clear HX
         obtain ⟨rfl, HX⟩ := hcut
         go_wp2_with fail
         go_roundg (P.length - (j + 1))
         case measure => omega
         case rel => exact ⟨j + 1, by go_num, by omega, Nat.le_refl _, HX⟩
       ·obtain rfl : j = P.length := by omega
        have c2b : decide ((P.length : Int) < (P.length : Int)) = false := decide_eq_false (by omega)
        go_wp2_with fail
        go_meet
        case rel => exact HX
    case rest =>
     as_aux_lemma =>
     clear HX HDR
     have HX := hcut
     clear hcut
     have HBW := Aside0.mk (HF.out _ HX.out).2.2.2.2.2.2.2
     clear HX HF HV
     go_wp2_with fail
     refine (drawTurnChords_calls A1 c1 l1 _ (Kd.C_below HR1.out HBW.out) H1.out).mono ?_
     rintro e x1 ⟨m, v50, s, t, rfl, hs60, hR, hb⟩
     obtain ⟨A50, c50, rfl, hl50, hC⟩ := Kd.R_reads hR
     obtain ⟨KM, U, M, z, b2, x, HMV, hmir, htur⟩ := hmove.out m s t hs60
     have HMI := Aside0.mk hmir
     have HTU := Aside0.mk htur
     have HMV := Aside0.mk HMV
     have HB1 := Aside0.mk (below_step HBW.out hb)
     have HC50 := Aside0.mk hC
     clear hR hb hC hmove hmir htur HR1 H1 HBW
     go_wp2_with fail
     refine (impl_TurnChords.calls KM m A50 c50 s t U z _ HC50.out hl50 HMV.out.ti).mono ?_
     rintro e x2 ⟨v52, rfl, hL, hb⟩
     replace HC50 := Aside0.mk (Kd.C_below HC50.out hb)
     have HB2 := Aside0.mk (below_step HB1.out hb)
     obtain ⟨A52, c52, rfl, hl52, hC⟩ := Kd.R_reads hL
     have HC52 := Aside0.mk hC
     clear hb hL hC HB1
     go_wp2_with fail
     refine (spec_TurnChords.calls KM m A50 c50 s t U z _ HC50.out hl50 HMV.out.ts).mono ?_
     rintro e x3 ⟨v54, rfl, hL, hb⟩
     replace HC50 := Aside0.mk (Kd.C_below HC50.out hb)
     replace HC52 := Aside0.mk (Kd.C_below HC52.out hb)
     have HB3 := Aside0.mk (below_step HB2.out hb)
     obtain ⟨A54, c54, rfl, hl54, hC⟩ := Kd.R_reads hL
     have HC54 := Aside0.mk hC
     clear hb hL hC HB2
     go_wp2_with fail
     refine (impl_MirrorChords.calls KM m A50 c50 s M b2 _ HC50.out hl50 HMV.out.mi).mono ?_
     rintro e x4 ⟨v56, rfl, hL, hb⟩
     replace HC50 := Aside0.mk (Kd.C_below HC50.out hb)
     replace HC52 := Aside0.mk (Kd.C_below HC52.out hb)
     replace HC54 := Aside0.mk (Kd.C_below HC54.out hb)
     have HB4 := Aside0.mk (below_step HB3.out hb)
     obtain ⟨A56, c56, rfl, hl56, hC⟩ := Kd.R_reads hL
     have HC56 := Aside0.mk hC
     clear hb hL hC HB3
     go_wp2_with fail
     refine (spec_MirrorChords.calls KM m A50 c50 s M b2 _ HC50.out hl50 HMV.out.ms).mono ?_
     rintro e x5 ⟨v58, rfl, hL, hb⟩
     replace HC50 := Aside0.mk (Kd.C_below HC50.out hb)
     replace HC52 := Aside0.mk (Kd.C_below HC52.out hb)
     replace HC54 := Aside0.mk (Kd.C_below HC54.out hb)
     replace HC56 := Aside0.mk (Kd.C_below HC56.out hb)
     have HB5 := Aside0.mk (below_step HB4.out hb)
     obtain ⟨A58, c58, rfl, hl58, hC⟩ := Kd.R_reads hL
     have HC58 := Aside0.mk hC
     clear hb hL hC HB4
     have HG := Aside0.mk (fun (W : World) (hb : Below x5.heap.size x5 W) => (⟨Kd.C_below HC50.out hb, Kd.C_below HC52.out hb, Kd.C_below HC54.out hb, Kd.C_below HC56.out hb, Kd.C_below HC58.out hb, below_step HB5.out hb⟩ : Kd.C k44 W A50 s.length s ∧ Kd.C k44 W A52 U.length U ∧ Kd.C k44 W A54 U.length U ∧ Kd.C k44 W A56 M.length M ∧ Kd.C k44 W A58 M.length M ∧ Below w.heap.size w W))
     have HX := Aside0.mk (Below.refl x5.heap.size x5)
     clear HC50 HC52 HC54 HC56 HC58 HB5
     go_upto_region 71 with (fail)
     go_cut [577] from 551 to 576 (fun v577 wx => v577 = .bool false ∧ Aside0 (Below x5.heap.size x5 wx))
     case first =>
      as_aux_lemma =>
      clear HMI HTU
      have q1 : (z != z) = false := by simp
      have q2 : (b2 != b2) = false := by simp
      have zb := Aside0.mk HMV.out.zb
      go_wp2_with fail
      refine (laws_gChords.calls KM A52 c52 U A54 c54 U true _ (HG.out _ HX.out).2.1 hl52 (HG.out _ HX.out).2.2.1 hl54 HMV.out.uu).mono ?_
      rintro e wn ⟨rfl, ⟨⟨nn, rfl⟩⟩⟩
      replace HX := Aside0.mk (pw_below_drewN HX.out nn)
      generalize World.drewN _ nn = wd1 at HX ⊢
      go_wp2_with fail
      refine (laws_gChords.calls KM A56 c56 M A58 c58 M true _ (HG.out _ HX.out).2.2.2.1 hl56 (HG.out _ HX.out).2.2.2.2.1 hl58 HMV.out.mm).mono ?_
      rintro e wn ⟨rfl, ⟨⟨nn, rfl⟩⟩⟩
      replace HX := Aside0.mk (pw_below_drewN HX.out nn)
      generalize World.drewN _ nn = wd2 at HX ⊢
      clear HG HMV q1 q2
      cases z with
      | false =>
       go_wp2_with fail
       go_meet
       case rel => exact ⟨rfl, HX⟩
      | true =>
       obtain rfl := zb.out rfl
       go_wp2_with fail
       go_meet
       case rel => exact ⟨rfl, HX⟩
     case rest =>
      as_aux_lemma =>
      clear HX HMV
      obtain ⟨rfl, HX⟩ := hcut
      go_upto_if 578 with (fail)
      go_cut [60, 61, 62, 63, 64, 65, 66, 67, 68, 69] from 579 to 652 (fun _ _ _ _ _ _ _ _ _ _ wx => Aside0 (Below x5.heap.size x5 wx))
      case first =>
       as_aux_lemma =>
       cases b2 with
       | false =>
        go_wp2_with fail
        go_meet
        case rel => exact HX
       | true =>
        have MI := Aside0.mk (HMI.out rfl)
        clear HMI
        go_wp2_with fail
        refine (impl_CountPairsCrossing.calls KM m A50 c50 s x true _ (HG.out _ HX.out).1 hl50 MI.out.cx).mono ?_
        rintro e y1 ⟨rfl, hb⟩
        replace HX := Aside0.mk (below_step HX.out hb)
        clear hb
        go_wp2_with fail
        refine (impl_CountPairsCrossing.calls KM m A56 c56 M x true _ (HG.out _ HX.out).2.2.2.1 hl56 MI.out.cy).mono ?_
        rintro e y2 ⟨rfl, hb⟩
        replace HX := Aside0.mk (below_step HX.out hb)
        clear hb
        go_wp2_with fail
        refine (impl_MirrorChords.calls KM m A56 c56 M s true _ (HG.out _ HX.out).2.2.2.1 hl56 MI.out.twice).mono ?_
        rintro e y3 ⟨v64, rfl, hL, hb⟩
        replace HX := Aside0.mk (below_step HX.out hb)
        obtain ⟨A64, c64, rfl, hl64, hC64⟩ := Kd.R_reads hL
        have HC64 := Aside0.mk hC64
        clear hb hL hC64
        have q1 : (x != x) = false := by simp
        go_wp2_with fail
        refine (laws_gChords.calls KM A64 c64 s A50 c50 s true _ HC64.out hl64 (HG.out _ HX.out).1 hl50 MI.out.ll).mono ?_
        rintro e wn ⟨rfl, ⟨⟨nn, rfl⟩⟩⟩
        replace HX := Aside0.mk (pw_below_drewN HX.out nn)
        generalize World.drewN _ nn = wd1 at HX ⊢
        clear HC64
        cases z with
        | false =>
         go_wp2_with fail
         go_meet
         case rel => exact HX
        | true =>
         have TU := Aside0.mk (HTU.out rfl)
         clear HTU
         obtain ⟨g1, g2, g3, g4⟩ := TU.out.rng
         go_wp2_with fail
         refine (impl_CountPairsCrossing.calls KM m A52 c52 U x true _ (HG.out _ HX.out).2.1 hl52 TU.out.cz).mono ?_
         rintro e y4 ⟨rfl, hb⟩
         replace HX := Aside0.mk (below_step HX.out hb)
         clear hb
         have p0 : ¬ m = 0 := by omega
         have p1 : (m == 0) = false := beq_eq_false_iff_ne.2 p0
         have p2 : (m != 0) = true := bne_iff_ne.2 p0
         clear g1 g2 g3 g4
         go_wp2_with fail
         refine (impl_TurnChords.calls KM m A52 c52 U (Int.tmod (wrap64 (m - t)) m) s true _ (HG.out _ HX.out).2.1 hl52 TU.out.home).mono ?_
         rintro e y5 ⟨v68, rfl, hL, hb⟩
         replace HX := Aside0.mk (below_step HX.out hb)
         obtain ⟨A68, c68, rfl, hl68, hC68⟩ := Kd.R_reads hL
         have HC68 := Aside0.mk hC68
         clear hb hL hC68 p0 p1 p2
         go_wp2_with fail
         refine (laws_gChords.calls KM A68 c68 s A50 c50 s true _ HC68.out hl68 (HG.out _ HX.out).1 hl50 MI.out.ll).mono ?_
         rintro e wn ⟨rfl, ⟨⟨nn, rfl⟩⟩⟩
         replace HX := Aside0.mk (pw_below_drewN HX.out nn)
         generalize World.drewN _ nn = wd3 at HX ⊢
         go_wp2_with fail
         go_meet
         case rel => exact HX
      case rest =>
       as_aux_lemma =>
       have HBW := Aside0.mk (HG.out _ hcut.out).2.2.2.2.2
       clear hcut HG
       go_wp2
       go_ret
       exact ⟨rfl, HBW.out⟩
open Classical in
noncomputable def laws_FnChordsCross.f (l0 l1 : List Int) : Option Bool := if isBytes l0 ∧ isBytes l1 then some true else none
theorem laws_FnChordsCross.calls (A0 : Option Addr) (c0 : Nat) (l0 : List Int) (A1 : Option Addr) (c1 : Nat) (l1 : List Int) (r : Bool) (w : World) (hr0 : Kd.C (Kd.int .u8) w A0 l0.length l0) (hc0 : l0.length ≤ c0) (hr1 : Kd.C (Kd.int .u8) w A1 l1.length l1) (hc1 : l1.length ≤ c1) (h : laws_FnChordsCross.f l0 l1 = some r) :
  Calls Tryz.prog 3 #[.slice A0 l0.length c0, .slice A1 l1.length c1] w fun e w' => e = .returned (.bool r) ∧ Below w.heap.size w w' := by
 unfold laws_FnChordsCross.f at h
 split at h
 ·rename_i hb
  obtain rfl := Option.some.inj h
  exact law_walk A0 c0 l0 A1 c1 l1 w hr0 hc0 hr1 hc1 hb.1 hb.2 ⟨set_facts⟩ ⟨move_facts⟩
 ·cases h
end Go.Proofs.YtfdocedppachkaaGreat.X
end
section
namespace Go.Proofs.YtfdocedppachkaaGreat.Q
open Go.RowKit Go.Proofs.YtfdocedppachkaaGreat.X Go.Proofs.YtfdocedppachkaaGreatW.PrintWords Go.Proofs.YtfdocedppachkaaGreatW.PrintLast Go.Proofs.YtfdocedppachkaaGreatW.PrintMore
set_option linter.unusedVariables false
set_option linter.unusedSimpArgs false
theorem byte_wf {l : List Int} (h : ∀ x ∈ l, (Lit.int .u8 x).wf = true) : isBytes l := by
 intro x hx
 have := h x hx
 simp only [Lit.wf, IntKind.min, IntKind.max, IntKind.signed, IntKind.bits, Bool.and_eq_true, decide_eq_true_eq] at this
 simp at this
 omega
theorem FnChordsCross : ∀ (l0 l1 : List Int), (∀ x ∈ l0, (Lit.int .u8 x).wf = true) → (∀ x ∈ l1, (Lit.int .u8 x).wf = true) → laws_FnChordsCross.f l0 l1 = some true := by
 intro l0 l1 h0 h1
 unfold laws_FnChordsCross.f
 rw [if_pos ⟨byte_wf h0, byte_wf h1⟩]
end Go.Proofs.YtfdocedppachkaaGreat.Q
end
section
namespace Go.Proofs.YtfdocedppachkaaGreat.XRow
open Go.ChangeShapes Go.WideShapes Go.RowKit Go.Proofs.YtfdocedppachkaaGreat.X Go.Proofs.YtfdocedppachkaaGreatW.PrintWords
theorem open_row_int {H : Type} {enc : TypeId × Value → H} {P : Program} {W : World} {r : Reach} {b0 base : Nat} {held : Bool} {t e : TypeId} {k : IntKind} {v : Value} {d : DataW H} {p : List MemPlace} (ht : P.underlying t = some (.slice e)) (he : P.underlying e = some (.int k)) (hc : P.cellsOf e = 1)
  (hval : Value.okWide P W r b0 t v) (h : DataW.Trod enc P W base (fun _ => true) held t v d p) :
  ∃ (A : Option Addr) (c : Nat) (l : List Int), v = .slice A l.length c ∧ Kd.C (Kd.int k) W A l.length l ∧ l.length ≤ c ∧ ∀ x ∈ l, (Lit.int k x).wf = true := by
 obtain ⟨A0, len, cap, rfl⟩ := okWide_slice ht hval
 obtain ⟨fuel, hf⟩ := h
 rcases open_ints ht he hc hf with ⟨hcs, _⟩ | ⟨a, l, c, zs, hcs, _, hl, hm, hz, _, hcell, hwz⟩
 ·simp [Value.cells] at hcs
  obtain ⟨rfl, rfl, rfl⟩ := hcs
  exact ⟨none, 0, [], rfl, Kd.C_nil _ _, Nat.le_refl _, fun x hx => by cases hx⟩
 ·simp [Value.cells] at hcs
  obtain ⟨rfl, rfl, rfl⟩ := hcs
  have hz' : zs.length = cap := by simpa using hz
  have hlen : (zs.take len).length = len := by rw [List.length_take]; omega
  have hmax : maxLen = 9223372036854775807 := by decide
  refine ⟨some a, cap, zs.take len, by rw [hlen], Kd.C_of_reads (d := (0 : Int)) ⟨rfl, by omega, fun _ => ⟨a, rfl, fun j hj => ?_⟩⟩, by omega, fun x hx => hwz x (List.mem_of_mem_take hx)⟩
  have := hcell j (by omega)
  rw [this, List.getD_eq_getElem?_getD, List.getD_eq_getElem?_getD, List.getElem?_take, if_pos (by omega)]
end Go.Proofs.YtfdocedppachkaaGreat.XRow
end
