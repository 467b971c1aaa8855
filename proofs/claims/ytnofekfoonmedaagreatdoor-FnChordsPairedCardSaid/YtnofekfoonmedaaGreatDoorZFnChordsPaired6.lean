/- What the statement FnChordsPaired needs, part 7 of 7: words, contracts and lemmas, cut to what is named. Written by a program of this work (wip/tools/gpack.py) out of its texts and the print's. -/
import Derived.Test.YtnofekfoonmedaaGreatDoorZFnChordsPaired5
import Derived.WideShapes
import Derived.ChangeSame
import Derived.OpenShut
import Derived.DataElems
import Derived.ChangeArms
import Derived.ChangeSlices
set_option linter.unusedVariables false
set_option linter.unusedSimpArgs false
set_option maxHeartbeats 80000000
set_option maxRecDepth 100000
section
namespace Go.Proofs.YtnofekfoonmedaaGreatDoor.X
open Go.RowKit Go.Proofs.YtnofekfoonmedaaGreatDoorW.PrintWords Go.Proofs.YtnofekfoonmedaaGreatDoorW.PrintLast Go.Proofs.YtnofekfoonmedaaGreatDoorW.PrintMore
attribute [local go_sem] max2_int min2_int max_two min_two max_three min_three max_four min_four
set_option linter.unusedVariables false
set_option linter.unusedSimpArgs false
open Go.Proofs.YtnofekfoonmedaaGreatDoor.Q (cat waysL waysL_len waysL_rd cat_pos cdPlane_eq planePoints_eq plF plF_ok spec_plane jb jb_size cdText_loop mkC insL insL_len srChord_eq srPut_eq Proper)
def DrawsStr (B : Nat) (w0 w : World) (g N : Nat) (e : Ending) (w' : World) : Prop := ∃ r : ByteArray, e = .returned (.string r) ∧ r.size ≤ B ∧ Cur w0 w' g N ∧ Below w0.heap.size w0 w' ∧ KeepBut w w' g none
theorem lit_Ck (k : IntKind) (W : World) (e : Nat) (l : List Int) (h1 : l.length ≤ 1000) : Kd.C (Kd.int k) (W.alloc (.cells (nums k l).toArray e (0, 0))) (some ⟨W.heap.size, 0, none⟩) l.length l := by
 refine Kd.C_of_reads (d := (0 : Int)) ⟨rfl, by omega, fun _ => ⟨_, rfl, fun j hj => ?_⟩⟩;rw [add_plain, blk_cell (blk_new W _) j, List.getD_eq_getElem?_getD, List.getElem?_eq_getElem hj, List.getElem?_toArray, nums, List.getElem?_map, List.getElem?_eq_getElem hj];rfl
theorem strOfNums_size (xs : List Int) : (strOfNums xs).size = xs.length := by
 unfold strOfNums;show (List.toArray _).size = _;simp
theorem spoilt_calls (w0 w : World) (g N : Nat) (t with_ : ByteArray) (hC : Cur w0 w g N) (hB : Below w0.heap.size w0 w) (hN : N ≤ 500000) (ht : t.size ≤ 100000) (hw0 : 0 < with_.size) (hw1 : with_.size ≤ 1000) :
  Calls Tryz.prog 78 #[.pointer (some ⟨g, 0, none⟩), .string t, .string with_] w (DrawsStr (t.size + 2) w0 w g (N + 14)) := by
 have HC := mk_ hC;have HB := mk_ hB;clear hC hB;go_enter Tryz.func78, Tryz.ntmps78;go_wp2_with fail;refine (pick_calls w0 _ g N 2 HC.out HB.out (by omega)).mono ?_;rintro e w1 ⟨x, rfl, ⟨hx0, hx1, _⟩, hC1, hB1, hK1⟩;replace hx1 := hx1 (by omega);have HC1 := mk_ hC1;have HB1 := mk_ hB1;have HK1 := mk_ hK1;clear hC1 hB1 hK1 HC HB;go_wp2_with fail;go_loopg [1, 7] 2 (fun gg v1 v7 wr => ∃ (u : ByteArray) (m : Nat), v1 = .string u ∧ v7 = .int .i64 (m : Int) ∧ m ≤ 2 ∧ m ≤ gg ∧ u.size + m ≤ t.size + 2 ∧ Aside0 (Cur w0 wr g (N + 14 - 6 * m)) ∧ Aside0 (Below w0.heap.size w0 wr) ∧ Aside0 (KeepBut w wr g none))
 case atStart => exact ⟨t, (1 + x).toNat, rfl, by rw [Int.toNat_of_nonneg (by omega)], by omega, by omega, by omega, ⟨HC1.out.up (by omega)⟩, HB1, HK1⟩
 case round =>
  clear HC1 HB1 HK1;obtain ⟨u, m, rfl, rfl, hm2, hmg, hum, HC, HB, HK⟩ := hrel;by_cases hm : 0 < m
  ·by_cases hu : 0 < u.size
   ·obtain ⟨m, rfl⟩ : ∃ j, m = j + 1 := ⟨m - 1, by omega⟩;go_wp2_with fail;refine (pick_calls w0 _ g (N + 14 - 6 * (m + 1)) u.size HC.out HB.out (by omega)).mono ?_;rintro e w2 ⟨i, rfl, ⟨hi0, hi1, _⟩, hC1, hB1, hK1⟩;replace hi1 := hi1 (by omega);have HC1 := mk_ hC1;have HB1 := mk_ hB1;have HK1 := mk_ (HK.out.trans hK1 (.inl rfl));clear hC1 hB1 hK1 HC HB HK;go_wp2_with fail;refine (pick_calls w0 _ g (N + 14 - 6 * (m + 1) + 2) with_.size HC1.out HB1.out (by omega)).mono ?_;rintro e w3 ⟨q, rfl, ⟨hq0, hq1, _⟩, hC2, hB2, hK2⟩;replace hq1 := hq1 (by omega);obtain ⟨b, hbb⟩ : ∃ b : Int, ((with_[q.toNat]'(by omega)).toNat : Int) = b := ⟨_, rfl⟩;have HC2 := mk_ (hC2.alloc (.cells #[.int .u8 b] 5 (0, 0)));have HB2 := mk_ (below_alloc hB2 (.cells #[.int .u8 b] 5 (0, 0)));have HK2 := mk_ (keep_alloc (HK1.out.trans hK2 (.inl rfl)) (.cells #[.int .u8 b] 5 (0, 0)));have hcv : (convert 22 9 (.slice (some ⟨w3.heap.size, 0, none⟩) 1 1)).run Tryz.prog (w3.alloc (.cells #[.int .u8 b] 5 (0, 0))) = .ok (.string (strOfNums [b])) (w3.alloc (.cells #[.int .u8 b] 5 (0, 0))) := Kd.C_string Tryz.underlying22 Tryz.underlying5 Tryz.underlying9 (lit_Ck .u8 w3 5 [b] (by simp));have hzs := strOfNums_size [b];obtain ⟨z, hz⟩ : ∃ z, strOfNums [b] = z := ⟨_, rfl⟩;rw [hz] at hzs hcv;clear hC2 hB2 hK2 HC1 HB1 HK1 hz;simp only [List.length_cons, List.length_nil] at hzs;go_wp2_with fail;clear hcv hbb;generalize w3.alloc (.cells #[.int .u8 b] 5 (0, 0)) = w4 at HC2 HB2 HK2 ⊢;refine (pick_calls w0 _ g (N + 14 - 6 * (m + 1) + 4) 3 HC2.out HB2.out (by omega)).mono ?_;rintro e w5 ⟨c, rfl, ⟨hc0, hc1, _⟩, hC5, hB5, hK5⟩;replace hc1 := hc1 (by omega);have HC5 := mk_ hC5;have HB5 := mk_ hB5;have HK5 := mk_ (HK2.out.trans hK5 (.inl rfl));clear hC5 hB5 hK5 HC2 HB2 HK2;have hi0' : i.toNat < u.size := by omega
    have hsz : u.size ≤ 100002 := by omega
    by_cases hca : c = 0
    ·have b0 : (c == 0) = true := beq_iff_eq.2 hca;clear hca;go_wp2_with fail;repeat (go_quiet (fail); try go_wp2)
     go_roundg m
     case measure => omega
     case rel => exact ⟨_, m, rfl, by go_num, by omega, by omega, by simp only [ByteArray.size_append, ByteArray.size_extract]; omega, ⟨(HC5.out.drewN _).up (by omega)⟩, ⟨pw_below_drewN HB5.out _⟩, ⟨keep_drewN HK5.out _⟩⟩
    ·have b0 : (c == 0) = false := beq_eq_false_iff_ne.2 hca;by_cases hcb : c = 1
     ·have b1 : (c == 1) = true := beq_iff_eq.2 hcb;clear hca hcb;go_wp2_with fail;repeat (go_quiet (fail); try go_wp2)
      go_roundg m
      case measure => omega
      case rel => exact ⟨_, m, rfl, by go_num, by omega, by omega, by simp only [ByteArray.size_append, ByteArray.size_extract]; omega, ⟨(HC5.out.drewN _).up (by omega)⟩, ⟨pw_below_drewN HB5.out _⟩, ⟨keep_drewN HK5.out _⟩⟩
     ·have b1 : (c == 1) = false := beq_eq_false_iff_ne.2 hcb;clear hca hcb;go_wp2_with fail;repeat (go_quiet (fail); try go_wp2)
      go_roundg m
      case measure => omega
      case rel => exact ⟨_, m, rfl, by go_num, by omega, by omega, by simp only [ByteArray.size_append, ByteArray.size_extract]; omega, ⟨(HC5.out.drewN _).up (by omega)⟩, ⟨pw_below_drewN HB5.out _⟩, ⟨keep_drewN HK5.out _⟩⟩
   ·go_wp2;go_ret;exact ⟨u, rfl, by omega, HC.out.up (by omega), HB.out, HK.out⟩
  ·go_wp2;go_ret;exact ⟨u, rfl, by omega, HC.out.up (by omega), HB.out, HK.out⟩
theorem drawRankOfPlanePairing_calls (A : Option Addr) (c : Nat) (l : List Int) (w : World) (hl : Kd.C (Kd.int .u8) w A l.length l) (hr : isBytes l) :
  Calls Tryz.prog 14 #[.slice A l.length c] w (TellsSet w) := by
 have HL := mk_ hl;have HR := mk_ hr;clear hl hr;go_enter Tryz.func14, Tryz.ntmps14;go_wp2_with fail;refine (one_calls w _ w.heap.size 0 3 (cur_new (Below.refl _ _) HL.out HR.out rfl) (below_one w _) (by omega)).mono ?_;rintro e w1 ⟨t, rfl, hC, hB, hK⟩;have HC1 := mk_ hC;have HB1 := mk_ hB;clear hC hB hK
 cases t with
 | true =>
  go_wp2_with fail;refine (drawIsPairing_calls A c l _ (Kd.C_below HL.out HB1.out) HR.out).mono ?_;rintro e w2 ⟨p, v, m, rfl, hm, hR, hb⟩;have HB2 := mk_ (below_step HB1.out hb);have HR2 := mk_ (Kd.R_lower hR (below_size HB1.out));clear hR hb HC1 HB1 HL HR;go_wp2;go_ret2;exact ⟨p, v, m, rfl, hm, HR2.out, HB2.out⟩
 | false =>
  clear HL HR;go_wp2_with fail;refine (pick_calls w _ w.heap.size 2 14 HC1.out HB1.out (by omega)).mono ?_;rintro e w3 ⟨z, rfl, ⟨hz0, hz1, _⟩, hC, hB, hK⟩;replace hz1 := hz1 (by omega);have HC3 := mk_ hC;have HB3 := mk_ hB;clear hC hB hK HC1 HB1;obtain ⟨m, hm, hm2, hm15, hcs, hcl, hcr, hc1, hc2⟩ := wayz (4 + 2 * z) (by rw [Int.tmod_eq_emod_of_nonneg (by omega)]; omega);have HOF := mk_ (show ∀ r : Int, 0 ≤ r → r < cat m → ∃ L, spec_cdOfRank.f 400 0 (4 + 2 * z) r (waysL (2 * m)) = some L ∧ L.length ≤ 60 from fun r h0 h1 => ⟨plF m m 0 r, by rw [hm]; exact spec_plane m hm15 m m (Nat.le_refl _) (Nat.le_refl _) 400 0 r (by omega) (Int.le_refl _) (by omega) h0 h1, by have := (plF_ok m m 0 r (Nat.le_refl _) hm15 h0 h1).2.2; omega⟩);have HCS := mk_ hcs;have HCR := mk_ hcr;clear hcs hcr hm;generalize waysL (2 * m) = cs at HCS HCR hcl HOF;obtain ⟨q, hqe⟩ : ∃ q, q = cat m := ⟨_, rfl⟩;rw [← hqe] at HCR HOF hc1;have hq : 1 ≤ q := hc1;clear hqe hc1 hc2;have hz4 : 0 ≤ 4 + 2 * z := by omega
  have hq0 : (q == 0) = false := beq_eq_false_iff_ne.2 (by omega);have hq1 : ¬ q = 0 := by omega
  go_wp2_with fail;refine start_ (n := 16) (S := fun w' => True) (ds := []) #[false, false, false, false, false, false, false, false, false, false, false, false, false, false, false, false] (by kernel_rfl) rfl rfl trivial (fun hHeld => ?_);refine pu_ 0 (some 19) ?_;refine pu_ 1 (some 20) ?_;refine pu_ 2 (some 21) ?_;refine pu_ 5 (some 24) ?_;refine pu_ 7 (some 26) ?_;refine pu_ 11 (some 30) ?_;refine one_ (i := 3) (N := some 22) #[true, true, true, true, false, true, false, true, false, false, false, true, false, false, false, false] rfl rfl (by kernel_rfl) (by decide) (fun K hK => ?_);refine goes_ Tryz.func41 (by kernel_rfl) rfl #[.pointer (some ⟨w.heap.size, 0, none⟩), .int .i64 250] (by rfl) rfl rfl (by simp only [List.map_toArray, List.map_cons, List.map_nil]; rfl) ?_;with_reducible refine (pick_calls w _ w.heap.size 4 250 HC3.out.drew (below_drew HB3.out) (by omega)).mono ?_
  rintro e w4 ⟨y, rfl, ⟨hy0, hy1, _⟩, hC, hB, hK⟩;refine ⟨_, rfl, ?_⟩;replace hy1 := hy1 (by omega);have HB4 := mk_ hB;obtain ⟨L, HM, hml⟩ := HOF.out _ (rank_in y q hy0 hy1 hq).1 (rank_in y q hy0 hy1 hq).2;replace HM := mk_ HM;clear hC hB hK HC3 HB3 hq;refine hK.out _ _ trivial (fun hHeld => ?_);clear hK K;refine nm_ (some 22) ?_;refine pu_ 4 (some 23) ?_;refine one_ (i := 6) (N := some 25) #[true, true, true, true, true, true, true, true, false, false, false, true, false, false, false, false] rfl rfl (by kernel_rfl) (by decide) (fun K hK => ?_);refine goes_ Tryz.func42 (by kernel_rfl) rfl #[.int .i64 (4 + 2 * z)] (by rfl) rfl rfl (by simp only [List.map_toArray, List.map_cons, List.map_nil]; rfl) ?_;with_reducible refine (spec_cdPlane.calls 300 (4 + 2 * z) cs _ HCS.out).mono ?_
  rintro e w5 ⟨v5, rfl, hR, hb⟩;refine ⟨_, rfl, ?_⟩;obtain ⟨A5, c5, e5⟩ := Kd.R_slice hR;subst e5;have HB5 := mk_ (below_step HB4.out hb);have hR' := (Kd.R_reads' hR).2.2;obtain ⟨ad, e5, hx⟩ := Kd.at_int hR' (4 + 2 * z) (by omega) (by omega);cases e5;rw [HCR.out] at hx;clear hR hR' hb HB4;refine hK.out _ _ trivial (fun hHeld => ?_);clear hK K;refine nm_ (some 25) ?_;refine pu_ 8 (some 27) ?_;refine two_ (i := 9) (j := 12) (Ni := some 28) (Nj := some 31) #[true, true, true, true, true, true, true, true, true, true, false, true, false, false, false, false] #[true, true, true, true, true, true, true, true, true, false, false, true, true, false, false, false] rfl rfl rfl rfl (by kernel_rfl) (by decide) (by decide) (fun K hK => ?_) (fun K hK => ?_)
  ·skip;refine value_ (w1 := ?_) (v := ?_) (by rfl) rfl ?_ ?_;rotate_left 2
   ·go_simp;constructor
    ·rfl
    ·rfl
   refine hK.out _ _ trivial (fun hHeld => ?_);clear hK K;refine nm_ (some 28) ?_;refine pu_ 10 (some 29) ?_;refine one_ (i := 12) (N := some 31) #[true, true, true, true, true, true, true, true, true, true, true, true, true, false, false, false] rfl rfl (by kernel_rfl) (by decide) (fun K hK => ?_);refine goes_ Tryz.func42 (by kernel_rfl) rfl #[.int .i64 (4 + 2 * z)] (by rfl) rfl rfl (by simp only [List.map_toArray, List.map_cons, List.map_nil]; rfl) ?_;with_reducible refine (spec_cdPlane.calls 300 (4 + 2 * z) cs _ HCS.out).mono ?_
   rintro e w6 ⟨v6, rfl, hR, hb⟩;refine ⟨_, rfl, ?_⟩;obtain ⟨A6, c6, e6⟩ := Kd.R_slice hR;subst e6;have HB6 := mk_ (below_step HB5.out hb);have HR6 := mk_ (Kd.R_reads' hR);clear hR hb HB5;refine hK.out _ _ trivial (fun hHeld => ?_);clear hK K;refine nm_ (some 31) ?_;refine one_ (i := 13) (N := some 32) #[true, true, true, true, true, true, true, true, true, true, true, true, true, true, false, false] rfl rfl (by kernel_rfl) (by decide) (fun K hK => ?_);refine goes_ Tryz.func49 (by kernel_rfl) rfl #[.int .i64 0, .int .i64 (4 + 2 * z), .int .i64 (Int.tmod (wrap64 (y * 7919)) q), .slice A6 cs.length c6] (by rfl) rfl rfl (by simp only [List.map_toArray, List.map_cons, List.map_nil]; rfl) ?_;with_reducible refine (spec_cdOfRank.calls 400 0 (4 + 2 * z) (Int.tmod (wrap64 (y * 7919)) q) A6 c6 cs L _ HR6.out.2.2 HR6.out.2.1 HM.out).mono ?_
   rintro e w7 ⟨v7, rfl, hR, hb⟩;refine ⟨_, rfl, ?_⟩;have HB7 := mk_ (below_step HB6.out hb);have HR7 := mk_ (Kd.R_mono (ok' := fun _ => True) (Kd.R_lower hR (below_size HB6.out)) (fun _ _ => trivial));clear hR hb HB6;refine hK.out _ _ trivial (fun hHeld => ?_);clear hK K;refine nm_ (some 32) ?_;refine pu_ 14 (some 2) ?_;refine pu_ 15 (some 3) ?_;refine done_ (by kernel_rfl) ?_
   go_wp2;go_ret2;exact ⟨_, _, L, rfl, by omega, HR7.out, HB7.out⟩
  ·skip;refine goes_ Tryz.func42 (by kernel_rfl) rfl #[.int .i64 (4 + 2 * z)] (by rfl) rfl rfl (by simp only [List.map_toArray, List.map_cons, List.map_nil]; rfl) ?_;with_reducible refine (spec_cdPlane.calls 300 (4 + 2 * z) cs _ HCS.out).mono ?_
   rintro e w6 ⟨v6, rfl, hR, hb⟩;refine ⟨_, rfl, ?_⟩;obtain ⟨A6, c6, e6⟩ := Kd.R_slice hR;subst e6;have HB6 := mk_ (below_step HB5.out hb);have HR6 := mk_ (Kd.R_reads' hR);replace hx := pw_cell_below hb hx;clear hR hb HB5;refine hK.out _ _ trivial (fun hHeld => ?_);clear hK K;refine nm_ (some 31) ?_;refine one_ (i := 9) (N := some 28) #[true, true, true, true, true, true, true, true, true, true, false, true, true, false, false, false] rfl rfl (by kernel_rfl) (by decide) (fun K hK => ?_);refine value_ (w1 := ?_) (v := ?_) (by rfl) rfl ?_ ?_;rotate_left 2
   ·go_simp;constructor
    ·rfl
    ·rfl
   refine hK.out _ _ trivial (fun hHeld => ?_);clear hK K;refine nm_ (some 28) ?_;refine pu_ 10 (some 29) ?_;refine one_ (i := 13) (N := some 32) #[true, true, true, true, true, true, true, true, true, true, true, true, true, true, false, false] rfl rfl (by kernel_rfl) (by decide) (fun K hK => ?_);refine goes_ Tryz.func49 (by kernel_rfl) rfl #[.int .i64 0, .int .i64 (4 + 2 * z), .int .i64 (Int.tmod (wrap64 (y * 7919)) q), .slice A6 cs.length c6] (by rfl) rfl rfl (by simp only [List.map_toArray, List.map_cons, List.map_nil]; rfl) ?_;with_reducible refine (spec_cdOfRank.calls 400 0 (4 + 2 * z) (Int.tmod (wrap64 (y * 7919)) q) A6 c6 cs L _ HR6.out.2.2 HR6.out.2.1 HM.out).mono ?_
   rintro e w7 ⟨v7, rfl, hR, hb⟩;refine ⟨_, rfl, ?_⟩;have HB7 := mk_ (below_step HB6.out hb);have HR7 := mk_ (Kd.R_mono (ok' := fun _ => True) (Kd.R_lower hR (below_size HB6.out)) (fun _ _ => trivial));clear hR hb HB6;refine hK.out _ _ trivial (fun hHeld => ?_);clear hK K;refine nm_ (some 32) ?_;refine pu_ 14 (some 2) ?_;refine pu_ 15 (some 3) ?_;refine done_ (by kernel_rfl) ?_
   go_wp2;go_ret2;exact ⟨_, _, L, rfl, by omega, HR7.out, HB7.out⟩
theorem drawParseChords_calls (A : Option Addr) (c : Nat) (l : List Int) (w : World) (hl : Kd.C (Kd.int .u8) w A l.length l) (hr : isBytes l) :
  Calls Tryz.prog 32 #[.slice A l.length c] w fun e w' => ∃ t : ByteArray, e = .returned (.string t) ∧ t.size ≤ 100 ∧ Below w.heap.size w w' := by
 have HL := mk_ hl;have HR := mk_ hr;clear hl hr;go_enter Tryz.func32, Tryz.ntmps32;go_wp2_with fail;refine (sureChords_calls w _ w.heap.size 0 7 (by decide) (cur_new (Below.refl _ _) HL.out HR.out rfl) (below_one w _) (by omega)).mono ?_;rintro e w1 ⟨p, v, m, rfl, ⟨hp0, hp1, hm, hmp⟩, hC1, hB1, hK1, hR1⟩;obtain ⟨A1, c1, rfl⟩ := Kd.R_slice hR1;have HC1 := mk_ hC1;have HB1 := mk_ hB1;have HR1 := mk_ (Kd.R_reads' hR1);have HTX := mk_ (show spec_cdText.f 100 m = some (jb m) by unfold spec_cdText.f; exact cdText_loop m (by omega) hmp m 100 [] rfl (by omega));have hts := jb_size m;clear hC1 hB1 hK1 hR1 HL HR hmp;go_wp2_with fail;refine (spec_cdText.calls 100 A1 c1 m (jb m) _ HR1.out.2.2 HR1.out.2.1 HTX.out).mono ?_;rintro e w2 ⟨rfl, hb⟩;have HC2 := mk_ (HC1.out.below hb);have HB2 := mk_ (below_step HB1.out hb);clear hb HC1 HB1 HR1 HTX;generalize jb m = t at hts ⊢;go_wp2_with fail;refine (one_calls w _ w.heap.size 40 3 (HC2.out.up (by omega)) HB2.out (by omega)).mono ?_;rintro e w3 ⟨z, rfl, hC3, hB3, hK3⟩;have HC3 := mk_ hC3;have HB3 := mk_ hB3;clear hC3 hB3 hK3 HC2 HB2
 cases z with
 | false =>
  go_wp2;go_ret;exact ⟨t, rfl, by omega, HB3.out⟩
 | true =>
  go_wp2_with fail;refine (spoilt_calls w w3 w.heap.size 42 t ⟨#[48, 49, 50, 51, 45, 44, 120]⟩ HC3.out HB3.out (by omega) (by omega) (by decide) (by decide)).mono ?_;rintro e w4 ⟨r, rfl, hrs, _, hB4, _⟩;have HB4 := mk_ hB4;clear hB4;go_wp2;go_ret;exact ⟨r, rfl, by omega, HB4.out⟩
end Go.Proofs.YtnofekfoonmedaaGreatDoor.X
end
section
namespace Go.Proofs.YtnofekfoonmedaaGreatDoor.X
open Go.RowKit Go.Proofs.YtnofekfoonmedaaGreatDoorW.PrintWords Go.Proofs.YtnofekfoonmedaaGreatDoorW.PrintLast Go.Proofs.YtnofekfoonmedaaGreatDoorW.PrintMore
attribute [local go_sem] max2_int min2_int max_two min_two max_three min_three max_four min_four
set_option linter.unusedVariables false
set_option linter.unusedSimpArgs false
structure RankVal (K : Nat) (n x : Int) (l : List S39) (cnt : Int) (ok one : Bool) : Prop where
 li : impl_PlanePairingOfRank.f K n x = some (l, ok)
 ls : spec_PlanePairingOfRank.f K n x = some (l, ok)
 ci : impl_CountPlanePairings.f K n = some (cnt, one)
 cs : spec_CountPlanePairings.f K n = some (cnt, one)
 gg : laws_gChords.f K l l = some true
 okv : ok = (one && (decide (x ≥ 0) && decide (x < cnt)))
structure RankOk (K : Nat) (n x : Int) (l : List S39) : Prop where
 ri : impl_RankOfPlanePairing.f K n l = some (x, true)
 pi : impl_IsPairing.f K n l = some (true, true)
 pl : impl_IsPlane.f K n l = some (true, true)
 len : (l.length : Int) * 2 = n
 small : l.length ≤ 40
structure BackVal (K : Nat) (m : Int) (l : List S39) (r : Int) (b : Bool) : Prop where
 ri : impl_RankOfPlanePairing.f K m l = some (r, b)
 rs : spec_RankOfPlanePairing.f K m l = some (r, b)
 gg : laws_gChords.f K l l = some true
 again : b = true → impl_PlanePairingOfRank.f K m r = some (l, true)
structure PairVal (K : Nat) (p : Int) (l : List S39) (v b : Bool) : Prop where
 pi : impl_IsPairing.f K p l = some (v, b)
 ps : spec_IsPairing.f K p l = some (v, b)
def allN (q : Int) : Nat → Int
 | 0 => 1
 | j + 1 => wrap64 (allN q j * (q - 1 - 2 * (j : Int)))
def sumN (ofs : List Int) : Nat → Int
 | 0 => 0
 | j + 1 => wrap64 (sumN ofs j + rd ofs (j : Int))
structure CountVal (K : Nat) (q x v : Int) (b : Bool) : Prop where
 ci : impl_CountPairings.f K q x = some (v, b)
 cs : spec_CountPairings.f K q x = some (v, b)
structure CountOk (K : Nat) (q : Int) (h : Nat) (ofs : List Int) : Prop where
 q_is : q = 2 * (h : Int) + 2
 rng : 1 ≤ h ∧ h ≤ 3
 each : ∀ k : Nat, k ≤ 6 → impl_CountPairings.f K q (k : Int) = some (rd ofs (k : Int), true)
 plane : impl_CountPlanePairings.f K q = some (rd ofs 0, true)
 same : sumN ofs 7 = allN q h
structure AddVal (K : Nat) (n : Int) (l : List S39) (a b : Int) (m : List S39) (y : Bool) : Prop where
 im : impl_AddChord.f K n l a b = some (m, y)
 sp : spec_AddChord.f K n l a b = some (m, y)
 gg : laws_gChords.f K m m = some true
 good : y = true → impl_AreChords.f K n m = some true ∧ m.length = l.length + 1
structure DropVal (K : Nat) (n : Int) (l : List S39) (t : Int) (d : List S39) (y : Bool) (L : List Int) (z : Bool) : Prop where
 di : impl_DropChord.f K n l t = some (d, y)
 ds : spec_DropChord.f K n l t = some (d, y)
 gd : laws_gChords.f K d d = some true
 li : impl_ChordLengths.f K n l = some (L, z)
 ls : spec_ChordLengths.f K n l = some (L, z)
 gl : laws_gSame.f K L L = some true
 ll : laws_gChords.f K l l = some true
 yz : y = true → z = true
 short : L.length ≤ 60
 home : y = true → 0 ≤ t ∧ t < l.length ∧ impl_AddChord.f K n d (rd_T39 l t).f0 (rd_T39 l t).f1 = some (l, true)
 long : z = true → ∀ i : Nat, i < L.length → 1 ≤ rd L (i : Int) ∧ 2 * rd L (i : Int) ≤ n ∧ rd L (i : Int) ≤ 60
structure TextVal (K : Nat) (l : List S39) (t : ByteArray) (y : Bool) : Prop where
 ti : impl_ChordsText.f K l = some (t, y)
 ts : spec_ChordsText.f K l = some (t, y)
 gg : laws_gChords.f K l l = some true
 back : y = true → impl_ParseChords.f K t = some (l, true)
structure ReadVal (K : Nat) (s : ByteArray) (m : List S39) (y : Bool) : Prop where
 pi : impl_ParseChords.f K s = some (m, y)
 ps : spec_ParseChords.f K s = some (m, y)
 gg : laws_gChords.f K m m = some true
 back : y = true → impl_ChordsText.f K m = some (s, true)
end Go.Proofs.YtnofekfoonmedaaGreatDoor.X
end
section
namespace Go.Proofs.YtnofekfoonmedaaGreatDoor.X
open Go.RowKit Go.Proofs.YtnofekfoonmedaaGreatDoorW.PrintWords Go.Proofs.YtnofekfoonmedaaGreatDoorW.PrintLast Go.Proofs.YtnofekfoonmedaaGreatDoorW.PrintMore
attribute [local go_sem] max2_int min2_int max_two min_two max_three min_three max_four min_four
set_option linter.unusedVariables false
set_option linter.unusedSimpArgs false
open Go.Proofs.YtnofekfoonmedaaGreatDoor.Q
theorem gSame_self (l : List Int) (hl : l.length ≤ 9000) (K : Nat) (hK : l.length < K) : laws_gSame.f K l l = some true := by
 have h : ∀ (d k : Nat) (i : Int), 0 ≤ i → i ≤ l.length → (l.length : Int) - i = d → d < k → laws_gSame.l0 k l l (l.length : Int) i = some true := by
  intro d
  induction d with
  | zero =>
   intro k i h0 h1 hd hk;obtain ⟨k, rfl⟩ : ∃ m, k = m + 1 := ⟨k - 1, by omega⟩;simp only [laws_gSame.l0];rw [if_neg (by omega)]
  | succ d ih =>
   intro k i h0 h1 hd hk;obtain ⟨k, rfl⟩ : ∃ m, k = m + 1 := ⟨k - 1, by omega⟩;simp only [laws_gSame.l0];rw [if_pos (by omega), if_pos (by omega), if_pos (by omega), if_pos (by omega), if_pos trivial, wrap64_id (by omega) (by omega)];exact ih k (i + 1) (by omega) (by omega) (by omega) (by omega)
 unfold laws_gSame.f;rw [if_pos rfl];exact h l.length K 0 (by omega) (by omega) (by omega) (by omega)
theorem gChords_self (l : List S39) (hl : l.length ≤ 9000) (K : Nat) (hK : l.length < K) : laws_gChords.f K l l = some true := by
 have h : ∀ (d k : Nat) (i : Int), 0 ≤ i → i ≤ l.length → (l.length : Int) - i = d → d < k → laws_gChords.l0 k l l (l.length : Int) i = some true := by
  intro d
  induction d with
  | zero =>
   intro k i h0 h1 hd hk;obtain ⟨k, rfl⟩ : ∃ m, k = m + 1 := ⟨k - 1, by omega⟩;simp only [laws_gChords.l0];rw [if_neg (by omega)]
  | succ d ih =>
   intro k i h0 h1 hd hk;obtain ⟨k, rfl⟩ : ∃ m, k = m + 1 := ⟨k - 1, by omega⟩;simp only [laws_gChords.l0];rw [if_pos (by omega), if_pos (by omega), if_pos (by omega), if_pos (by omega), if_neg (by simp), wrap64_id (by omega) (by omega)];exact ih k (i + 1) (by omega) (by omega) (by omega) (by omega)
 unfold laws_gChords.f;rw [if_pos rfl];exact h l.length K 0 (by omega) (by omega) (by omega) (by omega)
theorem okFrom_of (n : Int) : ∀ (l : List S39) (p : Option S39), Strict l → (∀ c ∈ l, Proper n c) → (∀ q, p = some q → ∀ c ∈ l, cLt q c = true) → okFrom n p l = true
 | [], p, _, _, _ => by cases p <;> rfl
 | c :: l, p, hs, hP, hq => by
  unfold Strict at hs;rw [List.pairwise_cons] at hs;have ih := okFrom_of n l (some c) hs.2 (fun d hd => hP d (List.mem_cons_of_mem _ hd)) (fun q e d hd => by cases e; exact hs.1 d hd);have hc : isChB n c = true := decide_eq_true (hP c (List.mem_cons_self ..))
  cases p with
  | none => rw [okFrom_none, hc, ih]; rfl
  | some q => rw [okFrom_some, hc, ih, hq q rfl c (List.mem_cons_self ..)]; rfl
theorem good_of (n : Int) (l : List S39) (h1 : 3 ≤ n ∧ n ≤ 60) (h2 : l.length ≤ 40) (h3 : Strict l) (h4 : ∀ c ∈ l, Proper n c) : goodB n l = true := by
 unfold goodB;rw [decide_eq_true h1, decide_eq_true h2, okFrom_of n l none h3 h4 (fun q e => by cases e)];rfl
theorem pairsX_none (n : Int) : ∀ (l : List S39), (∀ c ∈ l, Proper n c) → (∀ c ∈ l, ∀ e ∈ l, NX c e) → pairsX l = 0
 | [], _, _ => rfl
 | x :: l, hp, h => by
  have ih := pairsX_none n l (fun c hc => hp c (List.mem_cons_of_mem _ hc)) (fun c hc e he => h c (List.mem_cons_of_mem _ hc) e (List.mem_cons_of_mem _ he))
  have hz : countX x l = 0 := by
   unfold countX;rw [List.countP_eq_zero];intro d hd hh;have hx := h x List.mem_cons_self d (List.mem_cons_of_mem _ hd);rcases (crossB_iff n x d (hp x List.mem_cons_self) (hp d (List.mem_cons_of_mem _ hd))).1 hh with z | z
   ·exact hx.1 z
   ·exact hx.2 ⟨z.1, z.2.1, z.2.2⟩
  simp only [pairsX];omega
theorem incL_ends (n : Nat) : ∀ (m : List S39) (t : List Int), t.length = n → (∀ c ∈ m, Proper n c) → ∀ p : Nat, p < n → rd (incL m t) p = rd t p + ends m p
 | [], t, _, _, p, _ => by simp [incL, ends]
 | c :: m, t, ht, hp, p, hpn => by
  obtain ⟨h0, h1, h2⟩ := hp c List.mem_cons_self;obtain ⟨a, ha⟩ : ∃ a : Nat, c.f0 = a := ⟨c.f0.toNat, by omega⟩;obtain ⟨b, hb⟩ : ∃ b : Nat, c.f1 = b := ⟨c.f1.toNat, by omega⟩;simp only [incL];rw [ha, hb, Int.toNat_natCast, Int.toNat_natCast, incL_ends n m _ (by simp [ht]) (fun d hd => hp d (List.mem_cons_of_mem _ hd)) p hpn, rd_two t a b p _ _ (by omega) (by omega) (by omega), ends_cons, ha, hb];by_cases e1 : p = b
  ·subst e1;rw [if_pos rfl, if_neg (by omega), if_pos rfl];omega
  ·by_cases e2 : p = a
   ·subst e2;rw [if_neg e1, if_pos rfl, if_pos rfl, if_neg (by omega)];omega
   ·rw [if_neg e1, if_neg e2, if_neg (by omega), if_neg (by omega)];omega
theorem plF_facts (m : Nat) (h2 : 2 ≤ m) (hm : m ≤ 15) (x : Int) (h0 : 0 ≤ x) (h1 : x < cat m) : goodB (2 * (m : Int)) (plF m m 0 x) = true ∧ pairsX (plF m m 0 x) = 0 ∧ allOne (incL (plF m m 0 x) (List.replicate (2 * (m : Int)).toNat 0)) = true ∧ (plF m m 0 x).length = m := by
 obtain ⟨s1, s2, s3⟩ := plF_ok m m 0 x (Nat.le_refl _) hm h0 h1;obtain ⟨a1, a2, a3⟩ := plF_all m m 0 x (Nat.le_refl _) hm h0 h1
 have hp : ∀ c ∈ plF m m 0 x, Proper (2 * (m : Int)) c := fun c hc => by
  have := a1 c hc;unfold Proper;omega
 have hn : (2 * (m : Int)).toNat = 2 * m := by omega
 refine ⟨good_of _ _ (by omega) (by omega) s1 hp, pairsX_none _ _ hp a2, ?_, s3⟩;rw [hn, allOne_iff];intro i hi;rw [incL_len, List.length_replicate] at hi;rw [incL_ends (2 * m) _ _ (by simp) (fun c hc => by have := hp c hc; rwa [show ((2 * m : Nat) : Int) = 2 * (m : Int) by omega]) i hi, rd_rep _ _ _ hi, a3 i (by omega) (by omega)];rfl
theorem countPlane_both (n : Int) : ∃ r : Int × Bool, (r = if 4 ≤ n ∧ n ≤ 30 ∧ Int.tmod n 2 = 0 then (cat (n / 2).toNat, true) else (0, false)) ∧ ∀ k, 1000 ≤ k → spec_CountPlanePairings.f k n = some r ∧ impl_CountPlanePairings.f k n = some r := by
 refine ⟨_, rfl, fun k hk => ?_⟩;by_cases h : 4 ≤ n ∧ n ≤ 30 ∧ Int.tmod n 2 = 0
 ·have e2 : Int.tmod n 2 = n % 2 := Int.tmod_eq_emod_of_nonneg (by omega);obtain ⟨m, rfl⟩ : ∃ m : Nat, n = 2 * (m : Int) := ⟨(n / 2).toNat, by omega⟩;have h' : 3 ≤ 2 * (m : Int) ∧ 2 * (m : Int) ≤ 60 ∧ Int.tmod (2 * (m : Int)) 2 = 0 ∧ 2 * (m : Int) ≤ 30 := by omega
  have hW := waysL_len (2 * m);rw [if_pos h, show (2 * (m : Int) / 2).toNat = m by omega];unfold spec_CountPlanePairings.f impl_CountPlanePairings.f;simp only [planePoints_eq, isEven_eq, if_pos (decide_eq_true h), if_pos (decide_eq_true h'), Option.bind_some, cdPlane_eq m (by omega) (by omega) k (by omega), countPlane_eq m (by omega) k (by omega)];refine ⟨?_, trivial⟩;rw [if_pos (by omega), if_pos (by omega), waysL_rd _ m (by omega)]
 ·have h' : ¬ (3 ≤ n ∧ n ≤ 60 ∧ Int.tmod n 2 = 0 ∧ n ≤ 30) := by
   intro hh;have e2 : Int.tmod n 2 = n % 2 := Int.tmod_eq_emod_of_nonneg (by omega);omega
  rw [if_neg h];unfold spec_CountPlanePairings.f impl_CountPlanePairings.f;simp only [planePoints_eq, isEven_eq, decide_eq_false h, decide_eq_false h', Option.bind_some];simp
theorem rank_facts (n x : Int) : ∃ K l cnt ok one, RankVal K n x l cnt ok one ∧ (ok = true → RankOk K n x l) := by
 obtain ⟨⟨l, ok⟩, hl, hv, hk⟩ := planeOfRank_both n x;obtain ⟨⟨cnt, one⟩, cv, ck⟩ := countPlane_both n;simp only at hl;refine ⟨200000, l, cnt, ok, one, ⟨(hk _ (by omega)).2, (hk _ (by omega)).1, (ck _ (by omega)).2, (ck _ (by omega)).1, gChords_self l (by omega) _ (by omega), ?_⟩, fun e => ?_⟩
 ·by_cases h : 4 ≤ n ∧ n ≤ 30 ∧ Int.tmod n 2 = 0
  ·rw [if_pos h] at cv;injection cv with c1 c2
   subst c1;subst c2;by_cases hx : 0 ≤ x ∧ x < cat (n / 2).toNat
   ·rw [if_pos ⟨h.1, h.2.1, h.2.2, hx.1, hx.2⟩] at hv;injection hv with v1 v2
    rw [v2, decide_eq_true hx.1, decide_eq_true hx.2];rfl
   ·rw [if_neg (fun z => hx z.2.2.2)] at hv;injection hv with v1 v2
    rw [v2, Bool.true_and, ← Bool.decide_and, decide_eq_false hx]
  ·rw [if_neg h] at cv;rw [if_neg (fun z => h ⟨z.1, z.2.1, z.2.2.1⟩)] at hv;injection cv with c1 c2
   injection hv with v1 v2
   rw [v2, c2];rfl
 ·by_cases h : 4 ≤ n ∧ n ≤ 30 ∧ Int.tmod n 2 = 0 ∧ 0 ≤ x ∧ x < cat (n / 2).toNat
  ·rw [if_pos h] at hv;injection hv with v1 v2
   have e2 : Int.tmod n 2 = n % 2 := Int.tmod_eq_emod_of_nonneg (by omega);obtain ⟨m, rfl⟩ : ∃ m : Nat, n = 2 * (m : Int) := ⟨(n / 2).toNat, by omega⟩;rw [show (2 * (m : Int) / 2).toNat = m by omega] at v1 h;obtain ⟨f1, f2, f3, f4⟩ := plF_facts m (by omega) (by omega) x h.2.2.2.1 h.2.2.2.2;rw [← v1] at f1 f2 f3 f4;obtain ⟨r, g1, g2, g3⟩ := rank_both (2 * (m : Int)) l (by omega);obtain ⟨q, p1, p2⟩ := isPairing_both (2 * (m : Int)) l (by omega);obtain ⟨u, u1, u2⟩ := isPlane_both (2 * (m : Int)) l (by omega);have hr := g2 ⟨h.1, h.2.1, h.2.2.1⟩ f1 f2 f3;obtain ⟨m', e, _, hm', r0, r1, er⟩ := g1 hr;obtain rfl : m' = m := by omega
   rw [v1] at er;have hrx := plF_inj m' m' 0 r.1 x (Nat.le_refl _) (by omega) ⟨r0, r1⟩ ⟨h.2.2.2.1, h.2.2.2.2⟩ er;rw [if_pos f1, f3] at p1;rw [if_pos f1, f2] at u1;refine ⟨?_, ?_, ?_, by omega, by omega⟩
   ·rw [(g3 200000 (by omega)).2, ← hrx, ← hr]
   ·rw [(p2 200000 (by omega)).2, p1]
   ·rw [u2 200000 (by omega), u1];rfl
  ·rw [if_neg h] at hv;injection hv with v1 v2
   rw [v2] at e;cases e
theorem back_facts (m : Int) (l : List S39) (hl : l.length ≤ 60) : ∃ K r b, BackVal K m l r b := by
 obtain ⟨⟨r, b⟩, g1, _, g3⟩ := rank_both m l (by omega);refine ⟨200000, r, b, (g3 _ (by omega)).2, (g3 _ (by omega)).1, gChords_self l (by omega) _ (by omega), fun e => ?_⟩;obtain ⟨k, e1, h2, h15, r0, r1, er⟩ := g1 e;simp only at r0 r1 er;obtain ⟨q, _, hv, hk⟩ := planeOfRank_both m r;rw [(hk _ (by omega)).2, hv, e1, show (2 * (k : Int) / 2).toNat = k by omega, if_pos ⟨by omega, by omega, by rw [Int.tmod_eq_emod_of_nonneg (by omega)]; omega, r0, r1⟩, er]
theorem pair_facts (p : Int) (l : List S39) (hl : l.length ≤ 60) : ∃ K v b, PairVal K p l v b := by
 obtain ⟨⟨v, b⟩, _, h⟩ := isPairing_both p l (by omega);exact ⟨20000, v, b, (h _ (by omega)).2, (h _ (by omega)).1⟩
def ofsL (q : Int) : List Int := (List.range 7).map fun (k : Nat) => cpV q (k : Int)
theorem ofs_fin : ∀ h ∈ ([1, 2, 3] : List Nat), sumN (ofsL (2 * ((h : Nat) : Int) + 2)) 7 = allN (2 * (h : Int) + 2) h ∧ cpV (2 * (h : Int) + 2) 0 = cat (h + 1) := by decide +kernel
theorem ofs_rd (q : Int) (k : Nat) (hk : k ≤ 6) : rd (ofsL q) (k : Int) = cpV q (k : Int) := by
 unfold rd ofsL;rw [Int.toNat_natCast, List.getD_eq_getElem?_getD, List.getElem?_map, List.getElem?_range (by omega)];rfl
theorem count_facts (q x : Int) : ∃ K v b, CountVal K q x v b ∧ (b = true → q ≤ 8 → ∃ h ofs, CountOk K q h ofs) := by
 obtain ⟨⟨v, b⟩, hv, hk⟩ := countPairings_both q x;refine ⟨20000, v, b, ⟨(hk _ (by omega)).2, (hk _ (by omega)).1⟩, fun e h8 => ?_⟩;by_cases hq : (4 ≤ q ∧ q ≤ 12) ∧ q % 2 = 0 ∧ 0 ≤ x ∧ x ≤ 100
 ·obtain ⟨h, rfl⟩ : ∃ h : Nat, q = 2 * (h : Int) + 2 := ⟨((q - 2) / 2).toNat, by omega⟩
  have hm : h ∈ ([1, 2, 3] : List Nat) := by
   have : h = 1 ∨ h = 2 ∨ h = 3 := by omega
   rcases this with e | e | e <;> subst e <;> decide
  obtain ⟨f1, f2⟩ := ofs_fin h hm;refine ⟨h, ofsL (2 * (h : Int) + 2), rfl, by omega, fun k hk6 => ?_, ?_, f1⟩
  ·obtain ⟨r, hr, hk2⟩ := countPairings_both (2 * (h : Int) + 2) (k : Int);rw [(hk2 _ (by omega)).2, hr, if_pos ⟨hq.1, hq.2.1, by omega, by omega⟩, ofs_rd _ k hk6]
  ·obtain ⟨r, hr, hk2⟩ := countPlane_both (2 * (h : Int) + 2);have := ofs_rd (2 * (h : Int) + 2) 0 (by omega);rw [(hk2 _ (by omega)).2, hr, if_pos ⟨by omega, by omega, by rw [Int.tmod_eq_emod_of_nonneg (by omega)]; omega⟩, show ((2 * (h : Int) + 2) / 2).toNat = h + 1 by omega];rw [show ((0 : Nat) : Int) = 0 from rfl] at this;rw [this, f2]
 ·rw [if_neg hq] at hv;injection hv with v1 v2
  rw [v2] at e;cases e
theorem insL_long (c : S39) : ∀ (l : List S39), c ∉ l → (insL c l).length = l.length + 1
 | [], _ => rfl
 | y :: l, h => by
  have ih := insL_long c l (fun hc => h (List.mem_cons_of_mem _ hc));unfold insL;split
  ·rw [List.length_cons, ih, List.length_cons]
  ·split
   ·rename_i e;exact absurd (by rw [chord_ext e.1 e.2]; exact List.mem_cons_self) h
   ·rfl
theorem add_facts (n : Int) (l : List S39) (a b : Int) (hl : l.length ≤ 60) : ∃ K m y, AddVal K n l a b m y := by
 obtain ⟨⟨m, y⟩, h41, hv, hk⟩ := addChord_both n l a b (by omega);simp only at h41;refine ⟨20000, m, y, (hk _ (by omega)).2, (hk _ (by omega)).1, gChords_self m (by omega) _ (by omega), fun e => ?_⟩;by_cases h : goodB n l = true ∧ isCh n a b ∧ l.length < 40 ∧ hasC l a b = false
 ·rw [if_pos h] at hv;injection hv with v1 v2
  obtain ⟨g1, g2, g3, g4⟩ := good_spec n l h.1
  have hc : (⟨a, b⟩ : S39) ∉ l := fun z => by
   have := (hasC_iff l a b).2 z;rw [h.2.2.2] at this;cases this
  have hln := insL_long ⟨a, b⟩ l hc;rw [v1];refine ⟨?_, hln⟩;rw [areChords_eq n _ (by omega) 20000 (by omega), good_of n _ g1 (by omega) (insL_strict _ _ g3) (fun c hc => ?_)];rcases (insL_mem _ l c).1 hc with z | z
  ·subst z; exact h.2.1
  ·exact g4 c z
 ·rw [if_neg h] at hv;injection hv with v1 v2
  rw [v2] at e;cases e
theorem drop_back (n : Int) (l : List S39) (h : goodB n l = true) (t : Nat) (ht : t < l.length) : goodB n (l.take t ++ l.drop (t + 1)) = true ∧ hasC (l.take t ++ l.drop (t + 1)) (l[t]).f0 (l[t]).f1 = false ∧ insL l[t] (l.take t ++ l.drop (t + 1)) = l ∧ (l.take t ++ l.drop (t + 1)).length + 1 = l.length := by
 obtain ⟨g1, g2, g3, g4⟩ := good_spec n l h
 have hlen : (l.take t ++ l.drop (t + 1)).length + 1 = l.length := by
  rw [List.length_append, List.length_take, List.length_drop];omega
 have hl : l = l.take t ++ l[t] :: l.drop (t + 1) := by rw [List.getElem_cons_drop, List.take_append_drop]
 have hsub : List.Sublist (l.take t ++ l.drop (t + 1)) l := by
  conv => rhs; rw [hl]
  exact List.Sublist.append (List.Sublist.refl _) (List.sublist_cons_self _ _)
 have hst : Strict (l.take t ++ l.drop (t + 1)) := by
  unfold Strict at g3 ⊢;exact g3.sublist hsub
 have hno : l[t] ∉ l.take t ++ l.drop (t + 1) := by
  intro hm;have hl2 := hl;unfold Strict at g3;rw [hl, List.pairwise_append, List.pairwise_cons] at g3;rcases List.mem_append.1 hm with z | z
  ·have := g3.2.2 _ z _ List.mem_cons_self;rw [cLt_iff] at this;omega
  ·have := g3.2.1.1 _ z;rw [cLt_iff] at this;omega
 refine ⟨good_of n _ g1 (by omega) hst (fun c hc => g4 c (hsub.subset hc)), ?_, ?_, hlen⟩
 ·cases e : hasC (l.take t ++ l.drop (t + 1)) (l[t]).f0 (l[t]).f1 with
  | false => rfl
  | true => exact absurd ((hasC_iff _ _ _).1 e) hno
 ·refine strict_unique _ _ (insL_strict _ _ hst) g3 (fun x => ?_);rw [insL_mem];constructor
  ·rintro (z | z)
   ·subst z; exact List.getElem_mem _
   ·exact hsub.subset z
  ·intro z;rw [hl] at z;rcases List.mem_append.1 z with y | y
   ·exact .inr (List.mem_append_left _ y)
   ·rcases List.mem_cons.1 y with y | y
    ·exact .inl y
    ·exact .inr (List.mem_append_right _ y)
theorem rdT_at (l : List S39) (t : Nat) (ht : t < l.length) : rd_T39 l (t : Int) = l[t] := by
 unfold rd_T39;rw [Int.toNat_natCast, List.getD_eq_getElem?_getD, List.getElem?_eq_getElem ht, Option.getD_some]
theorem drop_facts (n : Int) (l : List S39) (t : Int) (hl : l.length ≤ 60) : ∃ K d y L z, DropVal K n l t d y L z := by
 obtain ⟨⟨d, y⟩, h40, hv, hk⟩ := dropChord_both n l t (by omega);obtain ⟨⟨L, z⟩, hL40, hLv, hLk⟩ := chordLengths_both n l (by omega);simp only at h40 hL40;refine ⟨20000, d, y, L, z, (hk _ (by omega)).2, (hk _ (by omega)).1, gChords_self d (by omega) _ (by omega), (hLk _ (by omega)).2, (hLk _ (by omega)).1, gSame_self L (by omega) _ (by omega), gChords_self l (by omega) _ (by omega), fun e => ?_, by omega, fun e => ?_, fun e => ?_⟩
 ·by_cases h : goodB n l = true ∧ 0 ≤ t ∧ t ≤ (l.length : Int) - 1
  ·rw [if_pos h.1] at hLv;injection hLv
  ·rw [if_neg h] at hv;injection hv with v1 v2
   rw [v2] at e;cases e
 ·by_cases h : goodB n l = true ∧ 0 ≤ t ∧ t ≤ (l.length : Int) - 1
  ·rw [if_pos h] at hv;injection hv with v1 v2
   obtain ⟨u, rfl⟩ : ∃ u : Nat, t = (u : Int) := ⟨t.toNat, by omega⟩;rw [Int.toNat_natCast] at v1;obtain ⟨g1, g2, g3, g4⟩ := good_spec n l h.1;obtain ⟨d1, d2, d3, d4⟩ := drop_back n l h.1 u (by omega);rw [← v1] at d1 d2 d3 d4;refine ⟨h.2.1, by omega, ?_⟩;rw [rdT_at l u (by omega)];obtain ⟨r, _, rv, rk⟩ := addChord_both n d (l[u]'(by omega)).f0 (l[u]'(by omega)).f1 (by omega);rw [(rk _ (by omega)).2, rv, if_pos ⟨d1, g4 _ (List.getElem_mem _), by omega, d2⟩, d3]
  ·rw [if_neg h] at hv;injection hv with v1 v2
   rw [v2] at e;cases e
 ·by_cases h : goodB n l = true
  ·rw [if_pos h] at hLv;injection hLv with v1 v2
   obtain ⟨g1, g2, g3, g4⟩ := good_spec n l h;intro i hi;rw [v1] at hi ⊢;rw [List.length_map] at hi;have hp := g4 _ (List.getElem_mem hi)
   have hr : rd (l.map (lenC n)) (i : Int) = lenC n l[i] := by
    unfold rd;rw [Int.toNat_natCast, List.getD_eq_getElem?_getD, List.getElem?_map, List.getElem?_eq_getElem hi];rfl
   rw [hr];unfold Proper at hp;unfold lenC mn;split <;> omega
  ·rw [if_neg h] at hLv;injection hLv with v1 v2
   rw [v2] at e;cases e
theorem text_facts (l : List S39) (hl : l.length ≤ 60) : ∃ K t y, TextVal K l t y := by
 obtain ⟨⟨t, y⟩, hv, hk⟩ := chordsText_both l (by omega);refine ⟨5000000, t, y, (hk _ (by omega)).2, (hk _ (by omega)).1, gChords_self l (by omega) _ (by omega), fun e => ?_⟩;by_cases h : goodB 60 l = true
 ·rw [if_pos h] at hv;injection hv with v1 v2
  have hs := jb_size l;obtain ⟨r, _, _, h2, h3⟩ := parseChords_both t (by rw [v1]; omega);rw [(h3 _ (Nat.le_refl _)).2, h2 l h v1.symm]
 ·rw [if_neg h] at hv;injection hv with v1 v2
  rw [v2] at e;cases e
theorem read_facts (s : ByteArray) (hs : s.size ≤ 100) : ∃ K m y, ReadVal K s m y := by
 obtain ⟨⟨m, y⟩, h40, h1, _, h3⟩ := parseChords_both s (by omega);simp only at h40 h1;refine ⟨5000000, m, y, (h3 _ (Nat.le_refl _)).2, (h3 _ (Nat.le_refl _)).1, gChords_self m (by omega) _ (by omega), fun e => ?_⟩;obtain ⟨g, hj⟩ := h1 e;obtain ⟨r, rv, rk⟩ := chordsText_both m (by omega);rw [(rk _ (by omega)).2, rv, if_pos g, hj]
end Go.Proofs.YtnofekfoonmedaaGreatDoor.X
end
section
namespace Go.Proofs.YtnofekfoonmedaaGreatDoor.X
open Go.RowKit Go.Proofs.YtnofekfoonmedaaGreatDoorW.PrintWords Go.Proofs.YtnofekfoonmedaaGreatDoorW.PrintLast Go.Proofs.YtnofekfoonmedaaGreatDoorW.PrintMore
attribute [local go_sem] max2_int min2_int max_two min_two max_three min_three max_four min_four
set_option linter.unusedVariables false
set_option linter.unusedSimpArgs false
theorem law_walk (A0 : Option Addr) (c0 : Nat) (l0 : List Int) (A1 : Option Addr) (c1 : Nat) (l1 : List Int) (w : World) (hr0 : Kd.C (Kd.int .u8) w A0 l0.length l0) (hc0 : l0.length ≤ c0) (hr1 : Kd.C (Kd.int .u8) w A1 l1.length l1) (hc1 : l1.length ≤ c1) (hb0 : isBytes l0) (hb1 : isBytes l1) (hG : GW w)
  (hrank : Aside0 (∀ n x, ∃ K l cnt ok one, RankVal K n x l cnt ok one ∧ (ok = true → RankOk K n x l)))
  (hback : Aside0 (∀ (m : Int) (l : List S39), l.length ≤ 60 → ∃ K r b, BackVal K m l r b))
  (hpair : Aside0 (∀ (p : Int) (l : List S39), l.length ≤ 60 → ∃ K v b, PairVal K p l v b))
  (hcount : Aside0 (∀ q x, ∃ K v b, CountVal K q x v b ∧ (b = true → q ≤ 8 → ∃ h ofs, CountOk K q h ofs)))
  (hadd : Aside0 (∀ (n : Int) (l : List S39) (a b : Int), l.length ≤ 60 → ∃ K m y, AddVal K n l a b m y))
  (hdrop : Aside0 (∀ (n : Int) (l : List S39) (t : Int), l.length ≤ 60 → ∃ K d y L z, DropVal K n l t d y L z))
  (htext : Aside0 (∀ (l : List S39), l.length ≤ 60 → ∃ K t y, TextVal K l t y))
  (hread : Aside0 (∀ s : ByteArray, s.size ≤ 100 → ∃ K m y, ReadVal K s m y)) :
  Calls Tryz.prog 3 #[.slice A0 l0.length c0, .slice A1 l1.length c1] w fun e w' => e = .returned (.bool true) ∧ Below w.heap.size w w' := by
 have HR0 := mk_ hr0;have HR1 := mk_ hr1;have H0 := mk_ hb0;have H1 := mk_ hb1;have HG := mk_ hG;have HC0 := mk_ hc0;have HBig := mk_ (fun r h => laws_big.calls A0 c0 l0 A1 c1 l1 r w hr0 hc0 hr1 hc1 h);clear hr0 hr1 hb0 hb1 hG hc0 hc1;go_enter Tryz.func3, Tryz.ntmps3;go_wp2_with fail;obtain ⟨r, hr⟩ : ∃ r, laws_big.f l0 l1 = some r := by unfold laws_big.f; split <;> exact ⟨_, rfl⟩
 refine (HBig.out r hr).mono ?_;rintro e w1 ⟨rfl, ⟨⟨nd, rfl⟩⟩⟩;clear hr HBig
 cases r with
 | true =>
  go_wp2;go_ret;exact ⟨rfl, pw_below_drewN (Below.refl _ _) _⟩
 | false =>
  go_wp2_with fail;refine (drawPlanePairingOfRank_calls A0 c0 l0 _ (Kd.C_drewN HR0.out _) HC0.out H0.out).mono ?_;rintro e w2 ⟨n, x, rfl, hb⟩;obtain ⟨K1, l, cnt, ok, one, hv, hok⟩ := hrank.out n x;have HV := mk_ hv;have HOK := mk_ hok;have HB := mk_ (below_step (pw_below_drewN (Below.refl w.heap.size w) nd) hb);clear hb hv hok HR0 H0 HC0;go_wp2_with fail;refine (impl_PlanePairingOfRank.calls K1 n x l ok _ HV.out.li).mono ?_;rintro e w3 ⟨v7, rfl, hR, hb⟩;obtain ⟨A7, c7, rfl, hl7, hC⟩ := Kd.R_reads hR;have HC7 := mk_ hC;replace HB := mk_ (below_step HB.out hb);clear hR hC hb;go_wp2_with fail;refine (spec_PlanePairingOfRank.calls K1 n x l ok _ HV.out.ls).mono ?_;rintro e w4 ⟨v9, rfl, hR, hb⟩;obtain ⟨A9, c9, rfl, hl9, hC⟩ := Kd.R_reads hR;have HF := mk_ (let hC7 := Kd.C_below HC7.out hb; let hB := below_step HB.out hb; fun (W : World) (hx : Below w4.heap.size w4 W) => (⟨Kd.C_below hC7 hx, Kd.C_below hC hx, below_step hB hx⟩ : Kd.C k39 W A7 l.length l ∧ Kd.C k39 W A9 l.length l ∧ Below w.heap.size w W));have HX := mk_ (Below.refl w4.heap.size w4);clear hR hC hb HC7 HB;go_wp2_with fail;refine (impl_CountPlanePairings.calls K1 n cnt one _ HV.out.ci).mono ?_;rintro e w5 ⟨rfl, ⟨⟨nd5, rfl⟩⟩⟩;replace HX := mk_ (pw_below_drewN HX.out nd5);generalize w4.drewN nd5 = w5 at HX ⊢;go_wp2_with fail;refine (spec_CountPlanePairings.calls K1 n cnt one _ HV.out.cs).mono ?_;rintro e w6 ⟨rfl, hb⟩;replace HX := mk_ (below_step HX.out hb);clear hb;go_upto_region 8 with (fail)
  go_cut [149] from 117 to 148 (fun v149 wx => v149 = .bool false ∧ Aside0 (Below w4.heap.size w4 wx))
  case first =>
   as_aux_lemma =>
   have HQ := HV.out.okv;have q1 : (cnt != cnt) = false := by simp
   cases ok with
   | true =>
    have hq := HV.out.okv
    cases one with
    | false => cases hq
    | true =>
     have g0 : decide (x ≥ 0) = true := by cases h : decide (x ≥ 0) <;> rw [h] at hq <;> first | rfl | cases hq
     have g1 : decide (x < cnt) = true := by rw [g0] at hq; exact hq.symm
     clear hq HQ;go_wp2_with fail;refine (laws_gChords.calls K1 A7 c7 l A9 c9 l true _ (HF.out _ HX.out).1 hl7 (HF.out _ HX.out).2.1 hl9 HV.out.gg).mono ?_;rintro e wn ⟨rfl, ⟨⟨nn, rfl⟩⟩⟩;replace HX := mk_ (pw_below_drewN HX.out nn);generalize World.drewN _ nn = wd at HX ⊢;go_wp2_with fail;go_meet
     case rel => exact ⟨rfl, HX⟩
   | false =>
    have hq := HV.out.okv
    cases one with
    | false =>
     clear hq HQ;go_wp2_with fail;refine (laws_gChords.calls K1 A7 c7 l A9 c9 l true _ (HF.out _ HX.out).1 hl7 (HF.out _ HX.out).2.1 hl9 HV.out.gg).mono ?_;rintro e wn ⟨rfl, ⟨⟨nn, rfl⟩⟩⟩;replace HX := mk_ (pw_below_drewN HX.out nn);generalize World.drewN _ nn = wd at HX ⊢;go_wp2_with fail;go_meet
     case rel => exact ⟨rfl, HX⟩
    | true =>
     by_cases hx : x ≥ 0
     ·have g0 : decide (x ≥ 0) = true := decide_eq_true hx;have g1 : decide (x < cnt) = false := by rw [g0] at hq; exact hq.symm
      clear hq HQ hx;go_wp2_with fail;refine (laws_gChords.calls K1 A7 c7 l A9 c9 l true _ (HF.out _ HX.out).1 hl7 (HF.out _ HX.out).2.1 hl9 HV.out.gg).mono ?_;rintro e wn ⟨rfl, ⟨⟨nn, rfl⟩⟩⟩;replace HX := mk_ (pw_below_drewN HX.out nn);generalize World.drewN _ nn = wd at HX ⊢;go_wp2_with fail;go_meet
      case rel => exact ⟨rfl, HX⟩
     ·have g0 : decide (x ≥ 0) = false := decide_eq_false hx;clear hq HQ hx;go_wp2_with fail;refine (laws_gChords.calls K1 A7 c7 l A9 c9 l true _ (HF.out _ HX.out).1 hl7 (HF.out _ HX.out).2.1 hl9 HV.out.gg).mono ?_;rintro e wn ⟨rfl, ⟨⟨nn, rfl⟩⟩⟩;replace HX := mk_ (pw_below_drewN HX.out nn);generalize World.drewN _ nn = wd at HX ⊢;go_wp2_with fail;go_meet
      case rel => exact ⟨rfl, HX⟩
  case rest =>
   as_aux_lemma =>
   obtain ⟨rfl, HX⟩ := hcut;go_upto_if 150 with (fail)
   go_cut [15, 16, 17, 18, 19, 20] from 151 to 198 (fun _ _ _ _ _ _ wx => Aside0 (Below w4.heap.size w4 wx))
   case first =>
    as_aux_lemma =>
    cases ok with
    | false =>
     go_wp2_with fail;go_meet
     case rel => exact HX
    | true =>
     obtain ⟨ri, pi, pl, hlen, hs40⟩ := HOK.out rfl;have HRI := mk_ ri;have HPI := mk_ pi;have HPL := mk_ pl;clear ri pi pl HOK HV;go_wp2_with fail;refine (impl_RankOfPlanePairing.calls K1 n A7 c7 l x true _ (HF.out _ HX.out).1 hl7 HRI.out).mono ?_;rintro e y1 ⟨rfl, hb⟩;replace HX := mk_ (below_step HX.out hb);clear hb;go_wp2_with fail;refine (impl_IsPairing.calls K1 n A7 c7 l true true _ (HF.out _ HX.out).1 hl7 HPI.out).mono ?_;rintro e y2 ⟨rfl, hb⟩;replace HX := mk_ (below_step HX.out hb);clear hb;go_wp2_with fail;refine (impl_IsPlane.calls K1 n A7 c7 l true true _ (HF.out _ HX.out).1 hl7 HPL.out).mono ?_;rintro e y3 ⟨rfl, hb⟩;replace HX := mk_ (below_step HX.out hb);clear hb;have q1 : (x != x) = false := by simp
     have q2 : (2 * (l.length : Int) != n) = false := by rw [← hlen]; simp; omega
     clear hlen;go_wp2_with fail;go_meet
     case rel => exact HX
   case rest =>
    as_aux_lemma =>
    replace HX := hcut;clear hcut;have HB := mk_ (HF.out _ HX.out).2.2;clear HF HX HOK HV hl7 hl9;go_wp2_with fail;refine (drawRankOfPlanePairing_calls A1 c1 l1 _ (Kd.C_below HR1.out HB.out) H1.out).mono ?_;rintro e x1 ⟨m, v22, set_, rfl, hm60, hR, hb⟩;obtain ⟨A22, c22, rfl, hl22, hC22⟩ := Kd.R_reads hR;obtain ⟨K2, r2, b2, hv⟩ := hback.out m set_ hm60;have HV := mk_ hv;have HF := mk_ (let hB := below_step HB.out hb; fun (W : World) (hx : Below x1.heap.size x1 W) => (⟨Kd.C_below hC22 hx, below_step hB hx⟩ : Kd.C k39 W A22 set_.length set_ ∧ Below w.heap.size w W));have HX := mk_ (Below.refl x1.heap.size x1);clear hR hC22 hb hv HB;go_wp2_with fail;refine (impl_RankOfPlanePairing.calls K2 m A22 c22 set_ r2 b2 _ (HF.out _ HX.out).1 hl22 HV.out.ri).mono ?_;rintro e x2 ⟨rfl, hb⟩;replace HX := mk_ (below_step HX.out hb);clear hb;go_wp2_with fail;refine (spec_RankOfPlanePairing.calls K2 m A22 c22 set_ r2 b2 _ (HF.out _ HX.out).1 hl22 HV.out.rs).mono ?_;rintro e x3 ⟨rfl, hb⟩;replace HX := mk_ (below_step HX.out hb);clear hb;go_wp2_with fail;refine (drawIsPairing_calls A1 c1 l1 _ (Kd.C_below HR1.out (HF.out _ HX.out).2) H1.out).mono ?_;rintro e x4 ⟨p, v28, prs, rfl, hp60, hR, hb⟩;obtain ⟨A28, c28, rfl, hl28, hC28⟩ := Kd.R_reads hR;obtain ⟨K3, v3, b3, hv3⟩ := hpair.out p prs hp60;have HC28 := mk_ hC28;replace HX := mk_ (below_step HX.out hb);have HV3 := mk_ hv3;clear hR hC28 hb hv3;go_wp2_with fail;refine (impl_IsPairing.calls K3 p A28 c28 prs v3 b3 _ HC28.out hl28 HV3.out.pi).mono ?_;rintro e x5 ⟨rfl, hb⟩;replace HC28 := mk_ (Kd.C_below HC28.out hb);replace HX := mk_ (below_step HX.out hb);clear hb;go_wp2_with fail;refine (spec_IsPairing.calls K3 p A28 c28 prs v3 b3 _ HC28.out hl28 HV3.out.ps).mono ?_;rintro e x6 ⟨rfl, hb⟩;replace HX := mk_ (below_step HX.out hb);clear hb HC28 HV3 hl28;go_wp2_with fail;refine (drawCountPairings_calls A1 c1 l1 _ (Kd.C_below HR1.out (HF.out _ HX.out).2) H1.out).mono ?_;rintro e x7 ⟨q, xq, rfl, _, hb⟩;obtain ⟨K4, v4, b4, hv4, hok4⟩ := hcount.out q xq;replace HX := mk_ (below_step HX.out hb);have HV4 := mk_ hv4;have HOK := mk_ hok4;clear hb hv4 hok4;go_wp2_with fail;refine (impl_CountPairings.calls K4 q xq v4 b4 _ HV4.out.ci).mono ?_;rintro e x8 ⟨rfl, hb⟩;replace HX := mk_ (below_step HX.out hb);clear hb;go_wp2_with fail;refine (spec_CountPairings.calls K4 q xq v4 b4 _ HV4.out.cs).mono ?_;rintro e x9 ⟨rfl, hb⟩;replace HX := mk_ (below_step HX.out hb);clear hb HV4;have q1 : (b2 != b2) = false := by simp
    have q2 : (r2 != r2) = false := by simp
    have q3 : (b3 != b3) = false := by simp
    have q4 : (v3 != v3) = false := by simp
    have q5 : (b4 != b4) = false := by simp
    have q6 : (v4 != v4) = false := by simp
    go_upto_if 278 with (fail)
    clear q1 q2 q3 q4 q5 q6;go_cut [39, 40] from 279 to 292 (fun _ _ wx => Aside0 (Below x1.heap.size x1 wx))
    case first =>
     as_aux_lemma =>
     cases b2 with
     | false =>
      go_wp2_with fail;go_meet
      case rel => exact HX
     | true =>
      have HAG := mk_ (HV.out.again rfl);go_wp2_with fail;refine (impl_PlanePairingOfRank.calls K2 m r2 set_ true _ HAG.out).mono ?_;rintro e y1 ⟨v39, rfl, hR, hb⟩;obtain ⟨A39, c39, rfl, hl39, hC39⟩ := Kd.R_reads hR;have HC39 := mk_ hC39;replace HX := mk_ (below_step HX.out hb);clear hR hC39 hb HAG;go_wp2_with fail;refine (laws_gChords.calls K2 A39 c39 set_ A22 c22 set_ true _ HC39.out hl39 (HF.out _ HX.out).1 hl22 HV.out.gg).mono ?_;rintro e wn ⟨rfl, ⟨⟨nn, rfl⟩⟩⟩;replace HX := mk_ (pw_below_drewN HX.out nn);generalize World.drewN _ nn = wd at HX ⊢;go_wp2_with fail;go_meet
      case rel => exact HX
    case rest =>
     as_aux_lemma =>
     replace HX := hcut;clear hcut;have HB := mk_ (HF.out _ HX.out).2;clear HF HX HV hl22;go_upto_region 31 with (fail)
     go_cut [297] from 293 to 296 (fun v297 wx => ∃ bb : Bool, v297 = .bool bb ∧ Aside0 (bb = true → b4 = true ∧ q ≤ 8) ∧ Aside0 (Below w.heap.size w wx))
     case first =>
      as_aux_lemma =>
      cases b4 with
      | false =>
       go_wp2_with fail;go_meet
       case rel => exact ⟨false, rfl, ⟨fun h => by cases h⟩, HB⟩
      | true =>
       go_wp2_with fail;go_meet
       case rel => exact ⟨_, rfl, ⟨fun h => ⟨by first | rfl | trivial, of_decide_eq_true h⟩⟩, HB⟩
     case rest =>
      as_aux_lemma =>
      obtain ⟨bb, rfl, HBB, HX⟩ := hcut;go_upto_if 297 with (fail)
      go_cut [41, 42, 43, 44, 45, 46, 47, 48, 49, 50] from 298 to 347 (fun _ _ _ _ _ _ _ _ _ _ wx => Aside0 (Below w.heap.size w wx))
      case first =>
       as_aux_lemma =>
       cases bb with
       | false =>
        go_wp2_with fail;go_meet
        case rel => exact HX
       | true =>
        obtain ⟨h, ofs, CO⟩ := HOK.out (HBB.out rfl).1 (HBB.out rfl).2;have HQ := mk_ CO.q_is;have hrng := CO.rng;have hq8 : q ≤ 8 := by have := CO.q_is; omega
        have hq4 : 4 ≤ q := by have := CO.q_is; omega
        have HCO := mk_ CO;clear CO HOK HBB;go_wp2_with fail;go_loopg [42, 43] 3 (fun gg v42 v43 wr => ∃ (j : Nat) (a k : Int), v42 = .int .i64 a ∧ v43 = .int .i64 k ∧ Aside0 (a = allN q j) ∧ Aside0 (k = q - 1 - 2 * (j : Int)) ∧ Aside0 (j ≤ h ∧ h - j ≤ gg) ∧ 1 ≤ k ∧ k ≤ 7 ∧ Aside0 (Below w.heap.size w wr))
        case atStart => exact ⟨0, 1, q - 1, rfl, by go_num, ⟨rfl⟩, ⟨by simp⟩, ⟨by omega⟩, by omega, by omega, HX⟩
        case round =>
         clear HX;obtain ⟨j, a, k, rfl, rfl, HA, HK, HJ, hk1, hk7, HX⟩ := hrel;by_cases hk : k > 1
         ·have g0 : decide (k > 1) = true := decide_eq_true hk;go_wp2_with fail;go_roundg (h - (j + 1))
          case measure => have := HJ.out; have := HK.out; have := HQ.out; omega
          case rel => exact ⟨j + 1, wrap64 (a * k), k - 2, rfl, by go_num, ⟨by rw [HA.out, HK.out]; rfl⟩, ⟨by rw [HK.out]; omega⟩, ⟨by have := HJ.out; have := HK.out; have := HQ.out; omega⟩, by have := HK.out; have := HQ.out; omega, by omega, HX⟩
         ·have g0 : decide (k > 1) = false := decide_eq_false hk;have HAH := mk_ (show a = allN q h by rw [HA.out, show j = h by have := HJ.out; have := HK.out; have := HQ.out; omega]);clear HA HK HJ hk hk1 hk7;go_wp2_with fail;clear g0;go_loopg [41, 44] 7 (fun gg v41 v44 wr => ∃ (i : Nat) (s : Int), v41 = .int .i64 s ∧ v44 = .int .i64 (i : Int) ∧ Aside0 (s = sumN ofs i) ∧ i ≤ 7 ∧ 7 - i ≤ gg ∧ Aside0 (Below w.heap.size w wr))
          case atStart => exact ⟨0, 0, rfl, rfl, ⟨rfl⟩, by omega, by omega, HX⟩
          case round =>
           clear HX;obtain ⟨i, s, rfl, rfl, HS, hi7, hig, HX⟩ := hrel;by_cases hi : (i : Int) ≤ 6
           ·have g0 : decide ((i : Int) ≤ 6) = true := decide_eq_true hi;go_wp2_with fail;refine (impl_CountPairings.calls K4 q (i : Int) (rd ofs (i : Int)) true _ (HCO.out.each i (by omega))).mono ?_;rintro e y1 ⟨rfl, hb⟩;replace HX := mk_ (below_step HX.out hb);clear hb;generalize hof : rd ofs (i : Int) = oi;have HOI := mk_ hof;clear hof;go_wp2_with fail;go_roundg (7 - (i + 1))
            case measure => omega
            case rel => exact ⟨i + 1, wrap64 (s + oi), rfl, by go_num, ⟨by rw [HS.out, ← HOI.out]; rfl⟩, by omega, by omega, HX⟩
           ·have g0 : decide ((i : Int) ≤ 6) = false := decide_eq_false hi;have HSA := mk_ (show (s != a) = false by rw [HS.out, HAH.out, show i = 7 by omega, HCO.out.same]; simp);clear HS HAH hi;go_wp2_with fail;refine (impl_CountPairings.calls K4 q 0 (rd ofs 0) true _ (HCO.out.each 0 (by omega))).mono ?_;rintro e y1 ⟨rfl, hb⟩;replace HX := mk_ (below_step HX.out hb);clear hb;go_wp2_with fail;refine (impl_CountPlanePairings.calls K4 q (rd ofs 0) true _ HCO.out.plane).mono ?_;rintro e y2 ⟨rfl, ⟨⟨nn, rfl⟩⟩⟩;replace HX := mk_ (pw_below_drewN HX.out nn);generalize World.drewN _ nn = wd at HX ⊢;generalize rd ofs 0 = o0;have q1 := HSA.out;have q2 : (o0 != o0) = false := by simp
            go_wp2_with fail;go_meet
            case rel => exact HX
      case rest =>
       as_aux_lemma =>
       replace HX := hcut;clear hcut HOK HBB;go_wp2_with fail;refine (drawAddChord_calls A1 c1 l1 _ (Kd.C_below HR1.out HX.out) H1.out).mono ?_;rintro e z1 ⟨na, v52, chs, ca, cb, rfl, hc60, hR, hb⟩;obtain ⟨A52, c52, rfl⟩ := Kd.R_slice hR;obtain ⟨K5, am, y5, hv⟩ := hadd.out na chs ca cb hc60;have HV5 := mk_ hv;have HB := mk_ (below_step HX.out hb);have HR52 := mk_ (Kd.R_lower hR (below_size HX.out));clear hR hb hv HX;have hx0 : (z1.alloc (.cells #[.int .i64 ca, .int .i64 cb] 39 (0, 0))).cell? ⟨z1.heap.size, 0, none⟩ = some (.int .i64 ca) := (blk_cell (blk_new z1 _) 0).trans rfl;have hx1 : (z1.alloc (.cells #[.int .i64 ca, .int .i64 cb] 39 (0, 0))).cell? ⟨z1.heap.size, 1, none⟩ = some (.int .i64 cb) := (blk_cell (blk_new z1 _) 1).trans rfl;go_wp2_with fail;clear hx0 hx1;refine (impl_AddChord.calls K5 na A52 c52 chs ca cb am y5 _ (Kd.R_reads' (Kd.R_alloc HR52.out _)).2.2 (Kd.R_reads' HR52.out).2.1 HV5.out.im).mono ?_;rintro e z2 ⟨v54, rfl, hR54, hb⟩;obtain ⟨A54, c54, rfl⟩ := Kd.R_slice hR54;have hl54 := (Kd.R_reads' hR54).2.1;have BX := mk_ (blk_below (blk_new z1 (.cells #[.int .i64 ca, .int .i64 cb] 39 (0, 0))) hb);have HZ := mk_ (Kd.R_lt HR52.out);replace HB := mk_ (below_step (below_alloc HB.out _) hb);replace HR52 := mk_ (Kd.R_tight rfl (Kd.R_below (Kd.R_alloc HR52.out _) hb));have HR54 := mk_ (Kd.R_bound hR54);clear hR54 hb;have hx0 : z2.cell? ⟨z1.heap.size, 0, none⟩ = some (.int .i64 ca) := (blk_cell BX.out 0).trans rfl;have hx1 : z2.cell? ⟨z1.heap.size, 1, none⟩ = some (.int .i64 cb) := (blk_cell BX.out 1).trans rfl;go_wp2_with fail;clear hx0 hx1;refine (spec_AddChord.calls K5 na _ _ chs ca cb am y5 w z2 HB.out HR52.out HV5.out.sp).mono ?_;rintro e z3 ⟨v56, rfl, hR, hB, hk⟩;obtain ⟨A56, c56, rfl, hl56, hC56⟩ := Kd.R_reads hR;have HF := mk_ (let hC54 := Kd.C_kept_own HR54.out (fun k h e => by have h1 := HZ.out k e.symm; have h2 := h.2.1; have h3 := World.size_alloc z1 (.cells #[.int .i64 ca, .int .i64 cb] 39 (0, 0)); omega) z3 hk; fun (W : World) (hx : Below z3.heap.size z3 W) => (⟨Kd.C_below hC54 hx, Kd.C_below hC56 hx, below_step hB hx⟩ : Kd.C k39 W A54 am.length am ∧ Kd.C k39 W A56 am.length am ∧ Below w.heap.size w W));have HX := mk_ (Below.refl z3.heap.size z3);clear hR hB hk hC56 HR54 HR52 HZ BX HB;go_wp2_with fail;refine (drawDropChord_calls A1 c1 l1 _ (Kd.C_below HR1.out (HF.out _ HX.out).2.2) H1.out).mono ?_;rintro e z4 ⟨nb, v59, ots, kb, rfl, ho60, hR, hb⟩;obtain ⟨A59, c59, rfl, hl59, hC⟩ := Kd.R_reads hR;clear hR;obtain ⟨K6, dr, y6, ls, z6, hv⟩ := hdrop.out nb ots kb ho60;have HV6 := mk_ hv;clear hv;replace HF := mk_ (let hX := below_step HX.out hb; fun (W : World) (hx : Below z4.heap.size z4 W) => (⟨Kd.C_below hC hx, HF.out W (below_step hX hx)⟩ : Kd.C k39 W A59 ots.length ots ∧ Kd.C k39 W A54 am.length am ∧ Kd.C k39 W A56 am.length am ∧ Below w.heap.size w W));replace HX := mk_ (Below.refl z4.heap.size z4);clear hC hb;go_wp2_with fail;refine (impl_DropChord.calls K6 nb A59 c59 ots kb dr y6 _ (HF.out _ HX.out).1 hl59 HV6.out.di).mono ?_;rintro e z5 ⟨v61, rfl, hR, hb⟩;obtain ⟨A61, c61, rfl, hl61, hC⟩ := Kd.R_reads hR;clear hR;replace HF := mk_ (let hX := below_step HX.out hb; fun (W : World) (hx : Below z5.heap.size z5 W) => (⟨Kd.C_below hC hx, HF.out W (below_step hX hx)⟩ : Kd.C k39 W A61 dr.length dr ∧ Kd.C k39 W A59 ots.length ots ∧ Kd.C k39 W A54 am.length am ∧ Kd.C k39 W A56 am.length am ∧ Below w.heap.size w W));replace HX := mk_ (Below.refl z5.heap.size z5);clear hC hb;go_wp2_with fail;refine (spec_DropChord.calls K6 nb A59 c59 ots kb dr y6 _ (HF.out _ HX.out).2.1 hl59 HV6.out.ds).mono ?_;rintro e z6w ⟨v63, rfl, hR, hb⟩;obtain ⟨A63, c63, rfl, hl63, hC⟩ := Kd.R_reads hR;clear hR;replace HF := mk_ (let hX := below_step HX.out hb; fun (W : World) (hx : Below z6w.heap.size z6w W) => (⟨Kd.C_below hC hx, HF.out W (below_step hX hx)⟩ : Kd.C k39 W A63 dr.length dr ∧ Kd.C k39 W A61 dr.length dr ∧ Kd.C k39 W A59 ots.length ots ∧ Kd.C k39 W A54 am.length am ∧ Kd.C k39 W A56 am.length am ∧ Below w.heap.size w W));replace HX := mk_ (Below.refl z6w.heap.size z6w);clear hC hb;go_wp2_with fail;refine (impl_ChordLengths.calls K6 nb A59 c59 ots ls z6 _ (HF.out _ HX.out).2.2.1 hl59 HV6.out.li).mono ?_;rintro e z7 ⟨v65, rfl, hR, hb⟩;obtain ⟨A65, c65, rfl, hl65, hC⟩ := Kd.R_reads hR;clear hR;replace HF := mk_ (let hX := below_step HX.out hb; fun (W : World) (hx : Below z7.heap.size z7 W) => (⟨Kd.C_below hC hx, HF.out W (below_step hX hx)⟩ : Kd.C (Kd.int .i64) W A65 ls.length ls ∧ Kd.C k39 W A63 dr.length dr ∧ Kd.C k39 W A61 dr.length dr ∧ Kd.C k39 W A59 ots.length ots ∧ Kd.C k39 W A54 am.length am ∧ Kd.C k39 W A56 am.length am ∧ Below w.heap.size w W));replace HX := mk_ (Below.refl z7.heap.size z7);clear hC hb;go_wp2_with fail;refine (spec_ChordLengths.calls K6 nb A59 c59 ots ls z6 _ (HF.out _ HX.out).2.2.2.1 hl59 HV6.out.ls).mono ?_;rintro e z8 ⟨v67, rfl, hR, hb⟩;obtain ⟨A67, c67, rfl, hl67, hC⟩ := Kd.R_reads hR;clear hR;replace HF := mk_ (let hX := below_step HX.out hb; fun (W : World) (hx : Below z8.heap.size z8 W) => (⟨Kd.C_below hC hx, HF.out W (below_step hX hx)⟩ : Kd.C (Kd.int .i64) W A67 ls.length ls ∧ Kd.C (Kd.int .i64) W A65 ls.length ls ∧ Kd.C k39 W A63 dr.length dr ∧ Kd.C k39 W A61 dr.length dr ∧ Kd.C k39 W A59 ots.length ots ∧ Kd.C k39 W A54 am.length am ∧ Kd.C k39 W A56 am.length am ∧ Below w.heap.size w W));replace HX := mk_ (Below.refl z8.heap.size z8);clear hC hb;go_wp2_with fail;refine (drawChordsText_calls A1 c1 l1 _ (Kd.C_below HR1.out (HF.out _ HX.out).2.2.2.2.2.2.2) H1.out).mono ?_;rintro e z9 ⟨v69, fre, rfl, hf60, hR, hb⟩;obtain ⟨A69, c69, rfl, hl69, hC⟩ := Kd.R_reads hR;clear hR;obtain ⟨K7, tx, y7, hv⟩ := htext.out fre hf60;have HV7 := mk_ hv;clear hv;replace HF := mk_ (let hX := below_step HX.out hb; fun (W : World) (hx : Below z9.heap.size z9 W) => (⟨Kd.C_below hC hx, HF.out W (below_step hX hx)⟩ : Kd.C k39 W A69 fre.length fre ∧ Kd.C (Kd.int .i64) W A67 ls.length ls ∧ Kd.C (Kd.int .i64) W A65 ls.length ls ∧ Kd.C k39 W A63 dr.length dr ∧ Kd.C k39 W A61 dr.length dr ∧ Kd.C k39 W A59 ots.length ots ∧ Kd.C k39 W A54 am.length am ∧ Kd.C k39 W A56 am.length am ∧ Below w.heap.size w W));replace HX := mk_ (Below.refl z9.heap.size z9);clear hC hb;go_wp2_with fail;refine (impl_ChordsText.calls K7 A69 c69 fre tx y7 _ (HF.out _ HX.out).1 hl69 HV7.out.ti).mono ?_;rintro e zz ⟨rfl, hb⟩;replace HX := mk_ (below_step HX.out hb);clear hb;go_wp2_with fail;refine (spec_ChordsText.calls K7 A69 c69 fre tx y7 _ (HF.out _ HX.out).1 hl69 HV7.out.ts).mono ?_;rintro e zz ⟨rfl, hb⟩;replace HX := mk_ (below_step HX.out hb);clear hb;go_wp2_with fail;refine (drawParseChords_calls A1 c1 l1 _ (Kd.C_below HR1.out (HF.out _ HX.out).2.2.2.2.2.2.2.2) H1.out).mono ?_;rintro e zz ⟨st, rfl, hst, hb⟩;replace HX := mk_ (below_step HX.out hb);obtain ⟨K8, rdd, y8, hv⟩ := hread.out st hst;have HV8 := mk_ hv;clear hv hb hst;go_wp2_with fail;refine (impl_ParseChords.calls K8 st rdd y8 _ (HG.out.below (HF.out _ HX.out).2.2.2.2.2.2.2.2) HV8.out.pi).mono ?_;rintro e z13 ⟨v75, rfl, hR, hb⟩;obtain ⟨A75, c75, rfl, hl75, hC⟩ := Kd.R_reads hR;clear hR;replace HF := mk_ (let hX := below_step HX.out hb; fun (W : World) (hx : Below z13.heap.size z13 W) => (⟨Kd.C_below hC hx, HF.out W (below_step hX hx)⟩ : Kd.C k39 W A75 rdd.length rdd ∧ Kd.C k39 W A69 fre.length fre ∧ Kd.C (Kd.int .i64) W A67 ls.length ls ∧ Kd.C (Kd.int .i64) W A65 ls.length ls ∧ Kd.C k39 W A63 dr.length dr ∧ Kd.C k39 W A61 dr.length dr ∧ Kd.C k39 W A59 ots.length ots ∧ Kd.C k39 W A54 am.length am ∧ Kd.C k39 W A56 am.length am ∧ Below w.heap.size w W));replace HX := mk_ (Below.refl z13.heap.size z13);clear hC hb;go_wp2_with fail;refine (spec_ParseChords.calls K8 st rdd y8 _ HV8.out.ps).mono ?_;rintro e z14 ⟨v77, rfl, hR, hb⟩;obtain ⟨A77, c77, rfl, hl77, hC⟩ := Kd.R_reads hR;clear hR;replace HF := mk_ (let hX := below_step HX.out hb; fun (W : World) (hx : Below z14.heap.size z14 W) => (⟨Kd.C_below hC hx, HF.out W (below_step hX hx)⟩ : Kd.C k39 W A77 rdd.length rdd ∧ Kd.C k39 W A75 rdd.length rdd ∧ Kd.C k39 W A69 fre.length fre ∧ Kd.C (Kd.int .i64) W A67 ls.length ls ∧ Kd.C (Kd.int .i64) W A65 ls.length ls ∧ Kd.C k39 W A63 dr.length dr ∧ Kd.C k39 W A61 dr.length dr ∧ Kd.C k39 W A59 ots.length ots ∧ Kd.C k39 W A54 am.length am ∧ Kd.C k39 W A56 am.length am ∧ Below w.heap.size w W));replace HX := mk_ (Below.refl z14.heap.size z14);clear hC hb hrank hback hpair hcount hadd hdrop htext hread HR1 H1;go_upto_region 62 with (fail)
       go_cut [482] from 424 to 481 (fun v482 wx => v482 = .bool false ∧ Aside0 (Below z14.heap.size z14 wx))
       case first =>
        as_aux_lemma =>
        have q1 : (y5 != y5) = false := by simp
        have q2 : (y6 != y6) = false := by simp
        have q3 : (z6 != z6) = false := by simp
        have q4 : (y7 != y7) = false := by simp
        have q5 : (tx.toList == tx.toList) = true := by simp
        have q6 : (y8 != y8) = false := by simp
        go_wp2_with fail;refine (laws_gChords.calls K5 A54 c54 am A56 c56 am true _ (HF.out _ HX.out).2.2.2.2.2.2.2.2.1 hl54 (HF.out _ HX.out).2.2.2.2.2.2.2.2.2.1 hl56 HV5.out.gg).mono ?_;rintro e wn ⟨rfl, ⟨⟨nn, rfl⟩⟩⟩;replace HX := mk_ (pw_below_drewN HX.out nn);generalize World.drewN _ nn = wd at HX ⊢;go_wp2_with fail;refine (laws_gChords.calls K6 A61 c61 dr A63 c63 dr true _ (HF.out _ HX.out).2.2.2.2.2.2.1 hl61 (HF.out _ HX.out).2.2.2.2.2.1 hl63 HV6.out.gd).mono ?_;rintro e wn ⟨rfl, ⟨⟨nn, rfl⟩⟩⟩;replace HX := mk_ (pw_below_drewN HX.out nn);generalize World.drewN _ nn = wd at HX ⊢;go_wp2_with fail;refine (laws_gSame.calls K6 A65 c65 ls A67 c67 ls true _ (HF.out _ HX.out).2.2.2.2.1 hl65 (HF.out _ HX.out).2.2.2.1 hl67 HV6.out.gl).mono ?_;rintro e wn ⟨rfl, ⟨⟨nn, rfl⟩⟩⟩;replace HX := mk_ (pw_below_drewN HX.out nn);generalize World.drewN _ nn = wd at HX ⊢;go_wp2_with fail;refine (laws_gChords.calls K8 A75 c75 rdd A77 c77 rdd true _ (HF.out _ HX.out).2.1 hl75 (HF.out _ HX.out).1 hl77 HV8.out.gg).mono ?_;rintro e wn ⟨rfl, ⟨⟨nn, rfl⟩⟩⟩;replace HX := mk_ (pw_below_drewN HX.out nn);generalize World.drewN _ nn = wd at HX ⊢;have HYZ := mk_ HV6.out.yz;clear HF HV5 HV6 HV7 HV8
        cases y6 with
        | false =>
         go_wp2_with fail;go_meet
         case rel => exact ⟨rfl, HX⟩
        | true =>
         obtain rfl := HYZ.out rfl;go_wp2_with fail;go_meet
         case rel => exact ⟨rfl, HX⟩
       case rest =>
        as_aux_lemma =>
        obtain ⟨rfl, HX⟩ := hcut;go_upto_region 64 with (fail)
        go_cut [497] from 483 to 496 (fun v497 wx => v497 = .bool false ∧ Aside0 (Below z14.heap.size z14 wx))
        case first =>
         as_aux_lemma =>
         cases y5 with
         | false =>
          go_wp2_with fail;go_meet
          case rel => exact ⟨rfl, HX⟩
         | true =>
          obtain ⟨gd, gl⟩ := HV5.out.good rfl;have HGD := mk_ gd;have q1 : ((am.length : Int) != (chs.length : Int) + 1) = false := by rw [gl]; simp
          have hc41 : am.length ≤ 61 := by omega
          clear gd gl HV5;go_wp2_with fail;refine (impl_AreChords.calls K5 na A54 c54 am true _ (HF.out _ HX.out).2.2.2.2.2.2.2.2.1 hl54 HGD.out).mono ?_;rintro e y1 ⟨rfl, hb⟩;replace HX := mk_ (below_step HX.out hb);clear hb;go_wp2_with fail;go_meet
          case rel => exact ⟨rfl, HX⟩
        case rest =>
         as_aux_lemma =>
         obtain ⟨rfl, HX⟩ := hcut;clear HV5;go_upto_if 498 with (fail)
         go_cut [79, 80] from 499 to 516 (fun _ _ wx => Aside0 (Below z14.heap.size z14 wx))
         case first =>
          as_aux_lemma =>
          cases y6 with
          | false =>
           go_wp2_with fail;go_meet
           case rel => exact HX
          | true =>
           obtain ⟨hk0, hk1, had⟩ := HV6.out.home rfl;have HAD := mk_ had;clear had;obtain ⟨ad, eA, hx0, hx1⟩ := at_T39 (HF.out _ HX.out).2.2.2.2.2.2.2.1 kb hk0 (by omega);subst eA;go_wp2_with fail;clear hx0 hx1;refine (impl_AddChord.calls K6 nb A61 c61 dr (rd_T39 ots kb).f0 (rd_T39 ots kb).f1 ots true _ (HF.out _ HX.out).2.2.2.2.2.2.1 hl61 HAD.out).mono ?_;rintro e y1 ⟨v79, rfl, hR, hb⟩;obtain ⟨A79, c79, rfl, hl79, hC79⟩ := Kd.R_reads hR;have HC79 := mk_ hC79;replace HX := mk_ (below_step HX.out hb);clear hR hC79 hb HAD;go_wp2_with fail;refine (laws_gChords.calls K6 A79 c79 ots (some ad) c59 ots true _ HC79.out hl79 (HF.out _ HX.out).2.2.2.2.2.2.2.1 hl59 HV6.out.ll).mono ?_;rintro e wn ⟨rfl, ⟨⟨nn, rfl⟩⟩⟩;replace HX := mk_ (pw_below_drewN HX.out nn);generalize World.drewN _ nn = wd at HX ⊢;go_wp2_with fail;go_meet
           case rel => exact HX
         case rest =>
          as_aux_lemma =>
          replace HX := hcut;clear hcut;go_upto_if 517 with (fail)
          go_cut [82] from 518 to 532 (fun _ wx => Aside0 (Below z14.heap.size z14 wx))
          case first =>
           as_aux_lemma =>
           cases z6 with
           | false =>
            go_wp2_with fail;go_meet
            case rel => exact HX
           | true =>
            have HLG := mk_ (HV6.out.long rfl);have hs60 := HV6.out.short;clear HV6;go_wp2_with fail;go_loopg [520] 60 (fun gg v520 wr => ∃ i : Nat, v520 = .int .i64 (i : Int) ∧ i ≤ ls.length ∧ ls.length - i ≤ gg ∧ Aside0 (Below z14.heap.size z14 wr))
            case atStart => exact ⟨0, rfl, by omega, by omega, HX⟩
            case round =>
             clear HX;obtain ⟨i, rfl, hil, hig, HX⟩ := hrel;by_cases hi : (i : Int) < (ls.length : Int)
             ·have g0 : decide ((i : Int) < (ls.length : Int)) = true := decide_eq_true hi;obtain ⟨ad, eA, hx⟩ := Kd.at_int (HF.out _ HX.out).2.2.2.2.1 (i : Int) (by omega) hi;subst eA;rw [Int.toNat_natCast] at hx;obtain ⟨h1, h2, h3⟩ := HLG.out i (by omega);generalize rd ls (i : Int) = lo at hx h1 h2 h3;have q1 : decide (lo < 1) = false := decide_eq_false (by omega);have q2 : decide (2 * lo > nb) = false := decide_eq_false (by omega);clear h2;go_wp2_with fail;go_roundg (ls.length - (i + 1))
              case measure => omega
              case rel => exact ⟨i + 1, by go_num, by omega, by omega, HX⟩
             ·have g0 : decide ((i : Int) < (ls.length : Int)) = false := decide_eq_false hi;go_wp2_with fail;go_meet
              case rel => exact HX
          case rest =>
           as_aux_lemma =>
           replace HX := hcut;clear hcut HV6;go_upto_if 533 with (fail)
           go_cut [83, 84] from 534 to 546 (fun _ _ wx => Aside0 (Below z14.heap.size z14 wx))
           case first =>
            as_aux_lemma =>
            cases y7 with
            | false =>
             go_wp2_with fail;go_meet
             case rel => exact HX
            | true =>
             have HBK := mk_ (HV7.out.back rfl);go_wp2_with fail;refine (impl_ParseChords.calls K7 tx fre true _ (HG.out.below (HF.out _ HX.out).2.2.2.2.2.2.2.2.2.2) HBK.out).mono ?_;rintro e y1 ⟨v83, rfl, hR, hb⟩;obtain ⟨A83, c83, rfl, hl83, hC83⟩ := Kd.R_reads hR;have HC83 := mk_ hC83;replace HX := mk_ (below_step HX.out hb);clear hR hC83 hb HBK;go_wp2_with fail;refine (laws_gChords.calls K7 A83 c83 fre A69 c69 fre true _ HC83.out hl83 (HF.out _ HX.out).2.2.1 hl69 HV7.out.gg).mono ?_;rintro e wn ⟨rfl, ⟨⟨nn, rfl⟩⟩⟩;replace HX := mk_ (pw_below_drewN HX.out nn);generalize World.drewN _ nn = wd at HX ⊢;go_wp2_with fail;go_meet
             case rel => exact HX
           case rest =>
            as_aux_lemma =>
            replace HX := hcut;clear hcut HV7
            cases y8 with
            | false =>
             go_wp2_with fail;go_ret;exact ⟨rfl, (HF.out _ HX.out).2.2.2.2.2.2.2.2.2.2⟩
            | true =>
             have HBK := mk_ (HV8.out.back rfl);go_wp2_with fail;refine (impl_ChordsText.calls K8 A75 c75 rdd st true _ (HF.out _ HX.out).2.1 hl75 HBK.out).mono ?_;rintro e y1 ⟨rfl, hb⟩;replace HX := mk_ (below_step HX.out hb);clear hb HBK;have q1 : (st.toList == st.toList) = true := by simp
             go_wp2_with fail;go_ret;exact ⟨rfl, (HF.out _ HX.out).2.2.2.2.2.2.2.2.2.2⟩
open Classical in
noncomputable def laws_FnChordsPaired.f (l0 l1 : List Int) : Option Bool := if isBytes l0 ∧ isBytes l1 then some true else none
theorem laws_FnChordsPaired.calls (A0 : Option Addr) (c0 : Nat) (l0 : List Int) (A1 : Option Addr) (c1 : Nat) (l1 : List Int) (r : Bool) (w : World) (hr0 : Kd.C (Kd.int .u8) w A0 l0.length l0) (hc0 : l0.length ≤ c0) (hr1 : Kd.C (Kd.int .u8) w A1 l1.length l1) (hc1 : l1.length ≤ c1) (hG : GW w) (h : laws_FnChordsPaired.f l0 l1 = some r) :
  Calls Tryz.prog 3 #[.slice A0 l0.length c0, .slice A1 l1.length c1] w fun e w' => e = .returned (.bool r) ∧ Below w.heap.size w w' := by
 unfold laws_FnChordsPaired.f at h;split at h
 ·rename_i hb;obtain rfl := Option.some.inj h;exact law_walk A0 c0 l0 A1 c1 l1 w hr0 hc0 hr1 hc1 hb.1 hb.2 hG ⟨rank_facts⟩ ⟨back_facts⟩ ⟨pair_facts⟩ ⟨count_facts⟩ ⟨add_facts⟩ ⟨drop_facts⟩ ⟨text_facts⟩ ⟨read_facts⟩
 ·cases h
end Go.Proofs.YtnofekfoonmedaaGreatDoor.X
end
section
namespace Go.Proofs.YtnofekfoonmedaaGreatDoor.Q
open Go.RowKit Go.Proofs.YtnofekfoonmedaaGreatDoor.X Go.Proofs.YtnofekfoonmedaaGreatDoorW.PrintWords Go.Proofs.YtnofekfoonmedaaGreatDoorW.PrintLast Go.Proofs.YtnofekfoonmedaaGreatDoorW.PrintMore
set_option linter.unusedVariables false
set_option linter.unusedSimpArgs false
theorem byte_wf {l : List Int} (h : ∀ x ∈ l, (Lit.int .u8 x).wf = true) : isBytes l := by
 intro x hx;have := h x hx;simp only [Lit.wf, IntKind.min, IntKind.max, IntKind.signed, IntKind.bits, Bool.and_eq_true, decide_eq_true_eq] at this;simp at this;omega
theorem FnChordsPaired : ∀ (l0 l1 : List Int), (∀ x ∈ l0, (Lit.int .u8 x).wf = true) → (∀ x ∈ l1, (Lit.int .u8 x).wf = true) → laws_FnChordsPaired.f l0 l1 = some true := by
 intro l0 l1 h0 h1;unfold laws_FnChordsPaired.f;rw [if_pos ⟨byte_wf h0, byte_wf h1⟩]
end Go.Proofs.YtnofekfoonmedaaGreatDoor.Q
end
section
namespace Go.Proofs.YtnofekfoonmedaaGreatDoor.XRow
open Go.ChangeShapes Go.WideShapes Go.RowKit Go.Proofs.YtnofekfoonmedaaGreatDoor.X Go.Proofs.YtnofekfoonmedaaGreatDoorW.PrintWords
theorem open_row_int {H : Type} {enc : TypeId × Value → H} {P : Program} {W : World} {r : Reach} {b0 base : Nat} {held : Bool} {t e : TypeId} {k : IntKind} {v : Value} {d : DataW H} {p : List MemPlace} (ht : P.underlying t = some (.slice e)) (he : P.underlying e = some (.int k)) (hc : P.cellsOf e = 1)
  (hval : Value.okWide P W r b0 t v) (h : DataW.Trod enc P W base (fun _ => true) held t v d p) :
  ∃ (A : Option Addr) (c : Nat) (l : List Int), v = .slice A l.length c ∧ Kd.C (Kd.int k) W A l.length l ∧ l.length ≤ c ∧ ∀ x ∈ l, (Lit.int k x).wf = true := by
 obtain ⟨A0, len, cap, rfl⟩ := okWide_slice ht hval;obtain ⟨fuel, hf⟩ := h;rcases open_ints ht he hc hf with ⟨hcs, _⟩ | ⟨a, l, c, zs, hcs, _, hl, hm, hz, _, hcell, hwz⟩
 ·simp [Value.cells] at hcs;obtain ⟨rfl, rfl, rfl⟩ := hcs;exact ⟨none, 0, [], rfl, Kd.C_nil _ _, Nat.le_refl _, fun x hx => by cases hx⟩
 ·simp [Value.cells] at hcs;obtain ⟨rfl, rfl, rfl⟩ := hcs;have hz' : zs.length = cap := by simpa using hz
  have hlen : (zs.take len).length = len := by rw [List.length_take]; omega
  have hmax : maxLen = 9223372036854775807 := by decide
  refine ⟨some a, cap, zs.take len, by rw [hlen], Kd.C_of_reads (d := (0 : Int)) ⟨rfl, by omega, fun _ => ⟨a, rfl, fun j hj => ?_⟩⟩, by omega, fun x hx => hwz x (List.mem_of_mem_take hx)⟩;have := hcell j (by omega);rw [this, List.getD_eq_getElem?_getD, List.getD_eq_getElem?_getD, List.getElem?_take, if_pos (by omega)]
end Go.Proofs.YtnofekfoonmedaaGreatDoor.XRow
end
