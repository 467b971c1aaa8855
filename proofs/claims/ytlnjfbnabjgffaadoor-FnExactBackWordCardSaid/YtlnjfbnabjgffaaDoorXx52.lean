-- Written by a program of this work (wip/tools/xadd.py). Not trusted: it is checked when it is built.
import Derived.Test.YtlnjfbnabjgffaaDoorXx2
import Derived.Test.YtlnjfbnabjgffaaDoorXx50
import Derived.Shelf.RegionOpenPlain
namespace Go.Proofs.YtlnjfbnabjgffaaDoor.X
open Go.RowKit Go.Proofs.YtlnjfbnabjgffaaDoorW.PrintWords Go.Proofs.YtlnjfbnabjgffaaDoorW.PrintLast Go.Proofs.YtlnjfbnabjgffaaDoorW.PrintMore
attribute [local go_sem] max2_int min2_int max_two min_two max_three min_three max_four min_four   -- for this text's walks alone
set_option linter.unusedVariables false
set_option linter.unusedSimpArgs false

/-! ### impl_BackWord: function 9 (given by hand) -/
def mrN (l : List Int) (i t : Nat) : Int := if t < i ∨ l.length - 1 - i < t then l.getD (l.length - 1 - t) 0 else l.getD t 0
theorem mr_next (l : List Int) (i : Nat) (cs : Array Value) (h : ∀ j, j < l.length → cs[j]? = some (.int .u8 (mrN l i j))) (hi : 2 * i + 1 < l.length) : ∀ j, j < l.length → ((cs.setIfInBounds i (.int .u8 (l.getD (l.length - 1 - i) 0))).setIfInBounds (l.length - 1 - i) (.int .u8 (l.getD i 0)))[j]? = some (.int .u8 (mrN l (i + 1) j)) := by
  intro j hj
  have l1 : i < cs.size := (Array.getElem?_eq_some_iff.1 (h i (by omega))).1
  have l2 : l.length - 1 - i < cs.size := (Array.getElem?_eq_some_iff.1 (h (l.length - 1 - i) (by omega))).1
  rw [Array.getElem?_setIfInBounds, Array.getElem?_setIfInBounds, Array.size_setIfInBounds]
  by_cases e : l.length - 1 - i = j
  · rw [if_pos e, if_pos (by omega)]
    unfold mrN
    rw [if_pos (by omega), ← e, show l.length - 1 - (l.length - 1 - i) = i by omega]
  · rw [if_neg e]
    by_cases e2 : i = j
    · rw [if_pos e2, if_pos (by omega)]
      unfold mrN
      rw [if_pos (by omega), e2]
    · rw [if_neg e2, h j hj]
      unfold mrN
      by_cases h1 : j < i ∨ l.length - 1 - i < j
      · rw [if_pos h1, if_pos (by omega)]
      · rw [if_neg h1, if_neg (by omega)]
theorem mr_end (l : List Int) (i : Nat) (hi : ¬ 2 * i + 1 < l.length) (j : Nat) (hj : j < l.length) : mrN l i j = l.reverse.getD j 0 := by
  have e : l.reverse.getD j 0 = l.getD (l.length - 1 - j) 0 := by
    rw [List.getD_eq_getElem?_getD, List.getD_eq_getElem?_getD, List.getElem?_reverse hj]
  rw [e]
  unfold mrN
  by_cases h1 : j < i ∨ l.length - 1 - i < j
  · rw [if_pos h1]
  · rw [if_neg h1, show l.length - 1 - j = j by omega]
set_option maxHeartbeats 1000000 in
set_option maxRecDepth 100000 in
theorem rev_walk (g cap m : Nat) (l : List Int) (cs : Array Value) (w : World) (hh : w.heap[g]? = some (.cells cs 5 (m, m + 1))) (hl : l.length ≤ m) (hs : l.length ≤ 1000000) (hc : ∀ j, j < l.length → cs[j]? = some (.int .u8 (l.getD j 0))) :
    Calls Tryd.prog 19 #[.slice (some ⟨g, 0, none⟩) l.length cap] w fun e w' => e = .returned (.tuple #[]) ∧ ∃ cs', w'.heap[g]? = some (.cells cs' 5 (m, m + 1)) ∧ (∀ j, j < l.length → cs'[j]? = some (.int .u8 (l.reverse.getD j 0))) ∧ ∀ (w0 : World) (B : Nat), B ≤ g → Below B w0 w → Below B w0 w' := by
  have HH := Aside0.mk hh
  have HL := Aside0.mk (show l.length ≤ m ∧ l.length ≤ 1000000 from ⟨hl, hs⟩)
  have HC := Aside0.mk hc
  clear hh hl hs hc
  obtain ⟨n, hn⟩ : ∃ n, n = l.length := ⟨_, rfl⟩
  have HN := Aside0.mk hn
  rw [← hn]
  clear hn
  have hN := HL.out.2
  rw [← HN.out] at hN
  have mixed : Tryd.prog.follows Departure.mixedOrders = true := by kernel_rfl
  go_enter Tryd.func19, Tryd.ntmps19
  go_wp2
  go_loopg [2, 3] n (fun gg v2 v3 wr => ∃ (i : Nat) (cs : Array Value), v2 = .int .i64 (i : Int) ∧ v3 = .int .i64 ((n : Int) - 1 - i) ∧ 2 * i ≤ n + 1 ∧ n - 2 * i ≤ gg ∧ Aside0 (wr.heap[g]? = some (.cells cs 5 (m, m + 1))) ∧ Aside0 (∀ j, j < n → cs[j]? = some (.int .u8 (mrN l i j))) ∧ Aside0 (∀ (w0 : World) (B : Nat), B ≤ g → Below B w0 w → Below B w0 wr))
  case atStart => exact ⟨0, cs, rfl, by simp, by omega, by omega, HH, ⟨fun j hj => by rw [HN.out] at hj; rw [HC.out j hj]; unfold mrN; rw [if_neg (by omega)]⟩, ⟨fun w0 B h1 h2 => h2⟩⟩
  case round =>
    clear HH HC
    obtain ⟨i, cs, rfl, rfl, hi, hg, HH, HC, HB⟩ := hrel
    by_cases hlt : 2 * i + 1 < n
    · have c0 : decide ((i : Int) < (n : Int) - 1 - i) = true := decide_eq_true (by omega)
      obtain ⟨j, hj⟩ : ∃ j, j = n - 1 - i := ⟨_, rfl⟩
      have ej : (n : Int) - 1 - i = (j : Int) := by omega
      have HJ := Aside0.mk hj
      rw [ej]
      have hij : i < j := by omega
      have hlm : n ≤ m := by rw [HN.out]; exact HL.out.1
      have hjn : j < n := by omega
      clear ej hj
      have HLT := Aside0.mk hlt
      have hin : i < n := by omega
      have HNl := HN.out
      have hci : wr.cell? ⟨g, i, none⟩ = some (.int .u8 (l.getD i 0)) := by
        rw [bz_cell HH.out i, HC.out i (by omega)]
        unfold mrN
        have hx1 := HN.out
        have hx2 := HJ.out
        rw [if_neg (by omega)]
      have hcj : wr.cell? ⟨g, j, none⟩ = some (.int .u8 (l.getD j 0)) := by
        rw [bz_cell HH.out j, HC.out j (by omega)]
        unfold mrN
        have hx1 := HN.out
        have hx2 := HJ.out
        rw [if_neg (by omega)]
      have hfi : wr.frozen? ⟨g, i, none⟩ = false := bz_frozen HH.out i (by omega)
      have hfj : wr.frozen? ⟨g, j, none⟩ = false := bz_frozen HH.out j (by omega)
      clear HNl hlm
      have hc1 : wr.drew.cell? ⟨g, i, none⟩ = some (.int .u8 (l.getD i 0)) := hci
      have hc2 : wr.drew.cell? ⟨g, j, none⟩ = some (.int .u8 (l.getD j 0)) := hcj
      have hf1 : wr.drew.frozen? ⟨g, i, none⟩ = false := hfi
      have hf2 : wr.drew.frozen? ⟨g, j, none⟩ = false := hfj
      have hb2 : (wr.drew.setCell ⟨g, i, none⟩ (.int .u8 (l.getD j 0))).frozen? ⟨g, j, none⟩ = false := by go_simp
      clear hci hcj hfi hfj
      have HS := Aside0.mk (show ((wr.setCell ⟨g, i, none⟩ (.int .u8 (l.getD j 0))).setCell ⟨g, j, none⟩ (.int .u8 (l.getD i 0))).drew.heap[g]? = _ from bz_set (bz_set HH.out i (.int .u8 (l.getD j 0))) j (.int .u8 (l.getD i 0)))
      have HSB := Aside0.mk (fun (w0 : World) (B : Nat) (h1 : B ≤ g) (h2 : Below B w0 w) => below_drew (((HB.out w0 B h1 h2).setCell h1 (p := ⟨g, i, none⟩) (.int .u8 (l.getD j 0))).setCell h1 (p := ⟨g, j, none⟩) (.int .u8 (l.getD i 0))))
      have hci : wr.cell? ⟨g, i, none⟩ = some (.int .u8 (l.getD i 0)) := hc1
      have hcj : wr.cell? ⟨g, j, none⟩ = some (.int .u8 (l.getD j 0)) := hc2
      have hfi : wr.frozen? ⟨g, i, none⟩ = false := hf1
      have hfj : wr.frozen? ⟨g, j, none⟩ = false := hf2
      go_wp2_with fail
      go_region_o
      go_wp2_with fail
      go_roundg (n - 2 * (i + 1))
      case measure => omega
      case rel =>
        have hj := HJ.out
        refine ⟨i + 1, _, by go_num, by first | go_num | (congr 1; omega), by omega, Nat.le_refl _, HS, ⟨?_⟩, HSB⟩
        have := mr_next l i cs (by rw [← HN.out]; exact HC.out) (by rw [← HN.out]; exact HLT.out)
        rw [← HN.out, ← hj] at this
        exact this
    · have hij : ¬ ((i : Int) < (n : Int) - 1 - i) := by omega
      have c0 : decide ((i : Int) < (n : Int) - 1 - i) = false := decide_eq_false hij
      have HLT := Aside0.mk hlt
      have HND := Aside0.mk (show ∀ j, j < n → cs[j]? = some (.int .u8 (l.reverse.getD j 0)) from fun j hj => by rw [HC.out j hj, mr_end l i (by rw [← HN.out]; exact hlt) j (by rw [← HN.out]; exact hj)])
      go_wp2_with fail
      go_end0
      exact ⟨rfl, cs, HH.out, HND.out, HB.out⟩
theorem byN_swB (s : ByteArray) (j : Nat) (h : j < s.size) : byN (swB s) j = swN (byN s j) := by
  have hj : j < (swL s).length := by rw [swL_len]; exact h
  have e := swL_get s j h
  rw [List.getD_eq_getElem?_getD, List.getElem?_eq_getElem hj, Option.getD_some] at e
  show ((swB s).data.toList.getD j 0).toNat = _
  unfold swB
  rw [strOfNums_data, List.getD_eq_getElem?_getD, List.getElem?_map, List.getElem?_eq_getElem hj, Option.map_some, Option.getD_some, e, UInt8.toNat_ofNat']
  have := swN_lt _ (byN_lt s j)
  omega
set_option maxHeartbeats 4000000 in
set_option maxRecDepth 100000 in
theorem back_walk (g : Int) (s : ByteArray) (w : World) (hs : s.size ≤ 1000000) (hq : impl_isWord.f g s = some true) :
    Calls Tryd.prog 9 #[.int .i64 g, .string s] w fun e w' => e = .returned (.tuple #[.string (strOfNums (swL s).reverse), .bool true]) ∧ Below w.heap.size w w' := by
  have HQ := Aside0.mk hq
  have HM := Aside0.mk (fun w => impl_mirrored.calls s (swB s) w (if_pos hs))
  have HS := Aside0.mk hs
  clear hq hs
  go_enter Tryd.func9, Tryd.ntmps9
  go_wp2_with fail
  refine (impl_isWord.calls g s true _ HQ.out).mono ?_
  rintro e w1 ⟨rfl, hb⟩
  have HB := Aside0.mk hb
  clear hb
  go_wp2_with fail
  refine (HM.out _).mono ?_
  rintro e w2 ⟨rfl, hb⟩
  have HB2 := Aside0.mk (below_step HB.out hb)
  clear hb HB
  have HU := Aside0.mk (show (swB s).size = s.size by unfold swB; rw [strOfNums_size, swL_len])
  obtain ⟨u, hu⟩ : ∃ u, u = swB s := ⟨_, rfl⟩
  rw [← hu] at HU ⊢
  have HE := Aside0.mk hu
  clear hu
  have kb := print_bytes (P := Tryd.prog) 9 32 5 Tryd.underlying9 Tryd.underlying32 Tryd.underlying5 u w2
  have hn1 := Lib.bytesWorld_at_new w2 5 u
  have hcs := bytesCells_size w2 5 u
  have HR := Aside0.mk (fun cap => rev_walk w2.heap.size cap _ (swL s) _ (Lib.bytesWorld w2 5 u) hn1 (by rw [swL_len, ← HU.out]; exact hcs) (by rw [swL_len]; exact HS.out) (fun j hj => by
    rw [swL_len] at hj
    rw [bytesCells_get w2 5 u j (by rw [HU.out]; exact hj), swL_get s j hj]
    rw [HE.out, byN_swB s j hj]))
  have HB3 := Aside0.mk (bytes_below HB2.out HB2.out.size 5 u)
  clear hn1 hcs
  have HR2 := HR
  rw [swL_len, ← HU.out] at HR2
  clear HR
  go_wp2_with fail
  refine (HR2.out _).mono ?_
  rintro e w3 ⟨rfl, cs', hh, hc, hb⟩
  have HB4 := Aside0.mk (hb w w.heap.size HB2.out.size HB3.out)
  have hcz := bytesCells_size w2 5 u
  have hrd : ReadsInt w3 .u8 (some ⟨w2.heap.size, 0, none⟩) u.size (swL s).reverse := ⟨by rw [List.length_reverse, swL_len, HU.out], by have := HU.out; have := HS.out; omega, fun _ => ⟨_, rfl, fun j hj => by
    rw [add_plain, bz_cell hh j, hc j hj]⟩⟩
  have hcv := fun c => string_of_reads (P := Tryd.prog) (c := c) Tryd.underlying32 Tryd.underlying5 Tryd.underlying9 hrd
  clear hrd hh hc hb hcz kb
  go_wp2_with fail
  go_ret2
  exact ⟨rfl, HB4.out⟩
set_option maxHeartbeats 4000000 in
set_option maxRecDepth 100000 in
theorem back_walk2 (g : Int) (s : ByteArray) (w : World) (hq : impl_isWord.f g s = some false) :
    Calls Tryd.prog 9 #[.int .i64 g, .string s] w fun e w' => e = .returned (.tuple #[.string ⟨#[]⟩, .bool false]) ∧ Below w.heap.size w w' := by
  have HQ := Aside0.mk hq
  clear hq
  go_enter Tryd.func9, Tryd.ntmps9
  go_wp2_with fail
  refine (impl_isWord.calls g s false _ HQ.out).mono ?_
  rintro e w1 ⟨rfl, hb⟩
  have HB := Aside0.mk hb
  clear hb
  go_wp2_with fail
  go_ret2
  exact ⟨rfl, HB.out⟩
def impl_BackWord.f (a0 : Int) (a1 : ByteArray) : Option (ByteArray × Bool) := (impl_isWord.f a0 a1).bind fun q => if q = true then (if a1.size ≤ 1000000 then some (strOfNums (swL a1).reverse, true) else none) else some (⟨#[]⟩, false)
theorem impl_BackWord.calls (a0 : Int) (a1 : ByteArray) (r1 : ByteArray) (r2 : Bool) (w : World) (h : impl_BackWord.f a0 a1 = some (r1, r2)) :
    Calls Tryd.prog 9 #[.int .i64 a0, .string a1] w fun e w' => e = .returned (.tuple #[.string r1, .bool r2]) ∧ Below w.heap.size w w' := by
  unfold impl_BackWord.f at h
  obtain ⟨q, hq, h⟩ := Option.bind_eq_some_iff.1 h
  cases q with
  | true =>
    rw [if_pos rfl] at h
    by_cases hs : a1.size ≤ 1000000
    · rw [if_pos hs] at h
      cases Option.some.inj h
      exact back_walk a0 a1 w hs hq
    · rw [if_neg hs] at h
      cases h
  | false =>
    rw [if_neg (by decide)] at h
    cases Option.some.inj h
    exact back_walk2 a0 a1 w hq

/-! ### laws_FnExactBackWord: function 4 -/
def laws_FnExactBackWord.f (k : Nat) (a0 : Int) (a1 : ByteArray) : Option (Bool) := if (a1.size : Int) > 1048576 then (some true) else ((spec_BackWord.f k a0 a1).bind fun bt120 => ((impl_BackWord.f a0 a1).bind fun bt122 => (if bt122.1.toList = bt120.1.toList then (if (bt122.2 != bt120.2) = true then (some false) else (some true)) else (some false))))
theorem laws_FnExactBackWord.mono : ∀ a0 a1 k, LeO (laws_FnExactBackWord.f k a0 a1) (laws_FnExactBackWord.f (k + 1) a0 a1) := by
  intro a0 a1 k
  unfold laws_FnExactBackWord.f
  repeat' first
      | (with_reducible exact spec_BackWord.mono _ _ _)
      | (with_reducible exact LeO.refl _)
      | (with_reducible exact LeO.none _)
      | (with_reducible refine LeO.ite ?_ ?_)
      | (with_reducible refine LeO.bind ?_ (fun _ => ?_))
      | exact spec_BackWord.mono _ _ _
      | exact LeO.none _
      | refine LeO.ite ?_ ?_
      | refine LeO.bind ?_ (fun _ => ?_)
set_option maxHeartbeats 8000000 in
set_option maxRecDepth 100000 in
theorem laws_FnExactBackWord.calls (k : Nat) (a0 : Int) (a1 : ByteArray) (r : Bool) (w : World) (h : laws_FnExactBackWord.f k a0 a1 = some r) :
    Calls Tryd.prog 4 #[.int .i64 a0, .string a1] w fun e w' => e = .returned (.bool r) ∧ Below w.heap.size w w' := by
  have HB := Aside0.mk (Below.refl w.heap.size w)
  have H : (if (a1.size : Int) > 1048576 then (some true) else ((spec_BackWord.f k a0 a1).bind fun bt120 => ((impl_BackWord.f a0 a1).bind fun bt122 => (if bt122.1.toList = bt120.1.toList then (if (bt122.2 != bt120.2) = true then (some false) else (some true)) else (some false))))) = some r := h
  clear h
  by_cases c3 : (a1.size : Int) > 1048576
  · rw [if_pos c3] at H
    have c3b0 : decide (1048576 < (a1.size : Int)) = true := decide_eq_true c3
    have c3b1 : decide (1048576 < a1.size) = true := decide_eq_true (by omega)
    clear c3
    obtain rfl := Option.some.inj H
    go_enter Tryd.func4, Tryd.ntmps4
    go_wp2
    go_ret
    exact ⟨by first | rfl | (simp [errW_none, errW_some] <;> rfl) | (simp [*, errW_none, errW_some] <;> rfl), by repeat (first | (with_reducible first | exact HB.out | apply below_alloc | apply pw_below_drewN | apply below_drew1) | exact HB.out)⟩
  · rw [if_neg c3] at H
    have c3b0 : decide (1048576 < (a1.size : Int)) = false := decide_eq_false c3
    have c3b1 : decide (1048576 < a1.size) = false := decide_eq_false (by omega)
    clear c3
    replace H := Option.bind_eq_some_iff.mp H
    obtain ⟨⟨t120, t121⟩, A40, H⟩ := H
    replace H : ((impl_BackWord.f a0 a1).bind fun bt122 => (if bt122.1.toList = t120.toList then (if (bt122.2 != t121) = true then (some false) else (some true)) else (some false))) = some r := H
    have A4 := Aside0.mk A40
    clear A40
    replace H := Option.bind_eq_some_iff.mp H
    obtain ⟨⟨t122, t123⟩, A50, H⟩ := H
    replace H : (if t122.toList = t120.toList then (if (t123 != t121) = true then (some false) else (some true)) else (some false)) = some r := H
    have A5 := Aside0.mk A50
    clear A50
    by_cases c6 : t122.toList = t120.toList
    · rw [if_pos c6] at H
      have c6b0 : (t122.toList == t120.toList) = true := beq_iff_eq.mpr c6
      have c6b1 : (t122.toList != t120.toList) = false := bne_eq_false_iff_eq.mpr c6
      clear c6
      by_cases c7 : (t123 != t121) = true
      · rw [if_pos c7] at H
        have c7b0 : (t123 != t121) = true := c7
        (try (have c7b1 : decide (t123 = t121) = false := by simpa using c7))
        (try (have c7b2 : (t123 == t121) = false := by simpa using c7))
        (try (have c7b3 : ¬ (t123 = t121) := by simpa using c7))
        clear c7
        obtain rfl := Option.some.inj H
        go_enter Tryd.func4, Tryd.ntmps4
        go_wp2_with (first | ((with_reducible refine gate_callee (f := 8) rfl ?_); refine goesL_ (some 15) rfl rfl Tryd.func8 (by kernel_rfl) rfl #[.int .i64 a0, .string a1] rfl (by (try simp only [List.map_toArray, List.map_cons, List.map_nil]); first | done | rfl | (simp only [List.length_drop, List.length_take]; rfl)) ?_; (with_reducible refine (spec_BackWord.calls k a0 a1 t120 t121 _ A4.out).mono ?_); rintro e w' ⟨rfl, ⟨nd, rfl⟩⟩; refine ⟨_, rfl, ?_⟩) | ((with_reducible refine gate_callee (f := 9) rfl ?_); refine goesL_ (some 21) rfl rfl Tryd.func9 (by kernel_rfl) rfl #[.int .i64 a0, .string a1] rfl (by (try simp only [List.map_toArray, List.map_cons, List.map_nil]); first | done | rfl | (simp only [List.length_drop, List.length_take]; rfl)) ?_; (with_reducible refine (impl_BackWord.calls a0 a1 t122 t123 _ A5.out).mono ?_); rintro e w8 ⟨rfl, hb⟩; refine ⟨_, rfl, ?_⟩; have n0_ := Aside0.mk (below_step (by repeat (first | (with_reducible first | exact HB.out | apply below_alloc | apply pw_below_drewN | apply below_drew1) | exact HB.out)) hb); clear HB; have HB := n0_; clear n0_; (try clear hb); (try clear hb2); (try clear hk); (try clear hi)))
        go_ret
        exact ⟨by first | rfl | (simp [errW_none, errW_some] <;> rfl) | (simp [*, errW_none, errW_some] <;> rfl), by repeat (first | (with_reducible first | exact HB.out | apply below_alloc | apply pw_below_drewN | apply below_drew1) | exact HB.out)⟩
      · rw [if_neg c7] at H
        have c7b0 : (t123 != t121) = false := by simpa using c7
        (try (have c7b1 : decide (t123 = t121) = true := by simpa using c7))
        (try (have c7b2 : (t123 == t121) = true := by simpa using c7))
        clear c7
        obtain rfl := Option.some.inj H
        go_enter Tryd.func4, Tryd.ntmps4
        go_wp2_with (first | ((with_reducible refine gate_callee (f := 8) rfl ?_); refine goesL_ (some 15) rfl rfl Tryd.func8 (by kernel_rfl) rfl #[.int .i64 a0, .string a1] rfl (by (try simp only [List.map_toArray, List.map_cons, List.map_nil]); first | done | rfl | (simp only [List.length_drop, List.length_take]; rfl)) ?_; (with_reducible refine (spec_BackWord.calls k a0 a1 t120 t121 _ A4.out).mono ?_); rintro e w' ⟨rfl, ⟨nd, rfl⟩⟩; refine ⟨_, rfl, ?_⟩) | ((with_reducible refine gate_callee (f := 9) rfl ?_); refine goesL_ (some 21) rfl rfl Tryd.func9 (by kernel_rfl) rfl #[.int .i64 a0, .string a1] rfl (by (try simp only [List.map_toArray, List.map_cons, List.map_nil]); first | done | rfl | (simp only [List.length_drop, List.length_take]; rfl)) ?_; (with_reducible refine (impl_BackWord.calls a0 a1 t122 t123 _ A5.out).mono ?_); rintro e w9 ⟨rfl, hb⟩; refine ⟨_, rfl, ?_⟩; have n0_ := Aside0.mk (below_step (by repeat (first | (with_reducible first | exact HB.out | apply below_alloc | apply pw_below_drewN | apply below_drew1) | exact HB.out)) hb); clear HB; have HB := n0_; clear n0_; (try clear hb); (try clear hb2); (try clear hk); (try clear hi)))
        go_ret
        exact ⟨by first | rfl | (simp [errW_none, errW_some] <;> rfl) | (simp [*, errW_none, errW_some] <;> rfl), by repeat (first | (with_reducible first | exact HB.out | apply below_alloc | apply pw_below_drewN | apply below_drew1) | exact HB.out)⟩
    · rw [if_neg c6] at H
      have c6b0 : (t122.toList == t120.toList) = false := beq_eq_false_iff_ne.mpr c6
      have c6b1 : (t122.toList != t120.toList) = true := bne_iff_ne.mpr c6
      obtain rfl := Option.some.inj H
      go_enter Tryd.func4, Tryd.ntmps4
      go_wp2_with (first | ((with_reducible refine gate_callee (f := 8) rfl ?_); refine goesL_ (some 15) rfl rfl Tryd.func8 (by kernel_rfl) rfl #[.int .i64 a0, .string a1] rfl (by (try simp only [List.map_toArray, List.map_cons, List.map_nil]); first | done | rfl | (simp only [List.length_drop, List.length_take]; rfl)) ?_; (with_reducible refine (spec_BackWord.calls k a0 a1 t120 t121 _ A4.out).mono ?_); rintro e w' ⟨rfl, ⟨nd, rfl⟩⟩; refine ⟨_, rfl, ?_⟩) | ((with_reducible refine gate_callee (f := 9) rfl ?_); refine goesL_ (some 21) rfl rfl Tryd.func9 (by kernel_rfl) rfl #[.int .i64 a0, .string a1] rfl (by (try simp only [List.map_toArray, List.map_cons, List.map_nil]); first | done | rfl | (simp only [List.length_drop, List.length_take]; rfl)) ?_; (with_reducible refine (impl_BackWord.calls a0 a1 t122 t123 _ A5.out).mono ?_); rintro e w10 ⟨rfl, hb⟩; refine ⟨_, rfl, ?_⟩; have n0_ := Aside0.mk (below_step (by repeat (first | (with_reducible first | exact HB.out | apply below_alloc | apply pw_below_drewN | apply below_drew1) | exact HB.out)) hb); clear HB; have HB := n0_; clear n0_; (try clear hb); (try clear hb2); (try clear hk); (try clear hi)))
      go_ret
      exact ⟨by first | rfl | (simp [errW_none, errW_some] <;> rfl) | (simp [*, errW_none, errW_some] <;> rfl), by repeat (first | (with_reducible first | exact HB.out | apply below_alloc | apply pw_below_drewN | apply below_drew1) | exact HB.out)⟩

/-- THE ONE PURE STATEMENT of laws_FnExactBackWord: yours. -/
def laws_FnExactBackWord.Pure : Prop := ∀ (a0 : Int) (a1 : ByteArray), (Lit.int .i64 a0).wf = true → a1.size ≤ 140737488351232 → ∃ k, laws_FnExactBackWord.f k a0 a1 = some true
theorem laws_FnExactBackWord.walk (P : laws_FnExactBackWord.Pure) (a0 : Int) (a1 : ByteArray) (w : World) (w0 : (Lit.int .i64 a0).wf = true) (w1 : a1.size ≤ 140737488351232) :
    Calls Tryd.prog 4 #[.int .i64 a0, .string a1] w fun e w' => e = .returned (.bool true) ∧ Below w.heap.size w w' := by
  obtain ⟨k, h⟩ := P a0 a1 w0 w1
  refine (laws_FnExactBackWord.calls k a0 a1 true w h).mono ?_
  rintro e w' ⟨rfl, hd⟩
  exact ⟨rfl, hd⟩


end Go.Proofs.YtlnjfbnabjgffaaDoor.X
