-- Written by a program of this work (wip/tools/xprint.py, which drives the kit's print over a whole seat). Not trusted: it is checked when it is built.
import Derived.Deep.WholeRow
import Derived.Defers
import Derived.Laws.LoneSync
import Derived.Laws.Pointers
import Derived.RegionCalls
import Derived.RegionTactic
import Derived.Tactics2
import Derived.Test.YtlnjfbnabjgffaaDoorXx0
namespace Go.Proofs.YtlnjfbnabjgffaaDoor.X
open Go.RowKit Go.Proofs.YtlnjfbnabjgffaaDoorW.PrintWords Go.Proofs.YtlnjfbnabjgffaaDoorW.PrintLast Go.Proofs.YtlnjfbnabjgffaaDoorW.PrintMore
attribute [local go_sem] max2_int min2_int max_two min_two max_three min_three max_four min_four   -- for this text's walks alone
set_option linter.unusedVariables false
set_option linter.unusedSimpArgs false

/-! ### impl_mirrored: function 18 (given by hand) -/
/-- L, R, R, L in a row's first four cells. -/
def LR4 (cs : Array Value) : Prop := cs[0]? = some (.string ⟨#[76]⟩) ∧ cs[1]? = some (.string ⟨#[82]⟩) ∧ cs[2]? = some (.string ⟨#[82]⟩) ∧ cs[3]? = some (.string ⟨#[76]⟩)
/-- The table: the first i places hold themselves. -/
def tabA (i : Nat) : Array Value := ((List.range 256).map fun (j : Nat) => if j < i then Value.int .u8 (j : Int) else Value.int .u8 0).toArray
theorem tabA_zero : tabA 0 = Tryd.zeroCells118 := by kernel_rfl
theorem tabA_size (i : Nat) : (tabA i).size = 256 := by unfold tabA; simp
theorem tabA_get (i j : Nat) (hj : j < 256) : (tabA i)[j]? = some (if j < i then Value.int .u8 (j : Int) else Value.int .u8 0) := by
  unfold tabA
  simp [hj]
theorem tabA_set (i : Nat) (hi : i < 256) : (tabA i).setIfInBounds i (.int .u8 (i : Int)) = tabA (i + 1) := by
  apply Array.ext_getElem?
  intro j
  rw [Array.getElem?_setIfInBounds]
  by_cases hj : j < 256
  · rw [tabA_get _ j hj, tabA_get _ j hj]
    by_cases e : i = j
    · subst e
      rw [if_pos rfl, if_pos (by rw [tabA_size]; omega), if_pos (by omega)]
    · rw [if_neg e]
      by_cases h : j < i
      · rw [if_pos h, if_pos (by omega)]
      · rw [if_neg h, if_neg (by omega)]
  · rw [if_neg (by omega), Array.getElem?_eq_none (by rw [tabA_size]; omega), Array.getElem?_eq_none (by rw [tabA_size]; omega)]
/-- L and R exchanged. -/
def swN (j : Nat) : Nat := if j = 76 then 82 else if j = 82 then 76 else j
def swA : Array Value := ((tabA 256).setIfInBounds 82 (.int .u8 76)).setIfInBounds 76 (.int .u8 82)
theorem swA_get (j : Nat) (hj : j < 256) : swA[j]? = some (.int .u8 (swN j : Int)) := by
  unfold swA swN
  rw [Array.getElem?_setIfInBounds, Array.getElem?_setIfInBounds, tabA_get _ j hj, if_pos hj]
  simp only [Array.size_setIfInBounds, tabA_size]
  by_cases h1 : j = 76
  · subst h1; rfl
  · rw [if_neg (Ne.symm h1), if_neg h1]
    by_cases h2 : j = 82
    · subst h2; rfl
    · rw [if_neg (Ne.symm h2), if_neg h2]
set_option maxHeartbeats 4000000 in
set_option maxRecDepth 100000 in
theorem build_walk (R A cap : Nat) (w : World) (hR : w.cell? ⟨R, 4, none⟩ = some (.slice (some ⟨A, 0, none⟩) 4 cap)) (cs9 : Array Value) (hcs : LR4 cs9) (hA : w.heap[A]? = some (.cells cs9 9 (0, 0))) :
    Calls Tryd.prog 67 #[.pointer (some ⟨R, 0, none⟩)] w fun e w' => ∃ (T : Nat), e = .returned (.iface 119 (.pointer (some ⟨T, 0, none⟩))) ∧ w'.heap[T]? = some (.cells swA 118 (0, 0)) ∧ w.heap.size = T ∧ Below T w w' := by
  have HAL := Aside0.mk (blk_lt hA)
  obtain ⟨w0, hw0⟩ : ∃ w0, w0 = w := ⟨_, rfl⟩
  have HWW := Aside0.mk hw0
  have HA := Aside0.mk (show w0.heap[A]? = some (.cells cs9 9 (0, 0)) by rw [hw0]; exact hA)
  clear hw0
  have h82 : ∀ h, (((⟨#[82]⟩ : ByteArray)[0]'h).toNat : Int) = 82 := fun _ => rfl
  have h76 : ∀ h, (((⟨#[76]⟩ : ByteArray)[0]'h).toNat : Int) = 76 := fun _ => rfl
  have a0 : w.cell? ⟨A, 0, none⟩ = some (.string ⟨#[76]⟩) := (blk_cell hA 0).trans hcs.1
  have a1 : w.cell? ⟨A, 1, none⟩ = some (.string ⟨#[82]⟩) := (blk_cell hA 1).trans hcs.2.1
  have a2 : w.cell? ⟨A, 2, none⟩ = some (.string ⟨#[82]⟩) := (blk_cell hA 2).trans hcs.2.2.1
  have a3 : w.cell? ⟨A, 3, none⟩ = some (.string ⟨#[76]⟩) := (blk_cell hA 3).trans hcs.2.2.2
  clear hA
  go_enter Tryd.func67, Tryd.ntmps67
  go_wp2_with fail
  go_loopg [4, 5] 4 (fun gg v4 v5 wr => ∃ i : Nat, v5 = .int .i64 (i : Int) ∧ v4 = .bool true ∧ (i = 0 ∨ i = 2 ∨ i = 4) ∧ 4 - i ≤ gg ∧ wr = w)
  case atStart => exact ⟨0, rfl, rfl, .inl rfl, by omega, rfl⟩
  case round =>
    obtain ⟨i, rfl, rfl, hi, hg, rfl⟩ := hrel
    rcases hi with rfl | rfl | rfl
    · go_wp2_with fail
      go_roundg 2
      case measure => omega
      case rel => exact ⟨2, rfl, rfl, .inr (.inl rfl), by omega, rfl⟩
    · go_wp2_with fail
      go_roundg 0
      case measure => omega
      case rel => exact ⟨4, rfl, rfl, .inr (.inr rfl), by omega, rfl⟩
    · obtain ⟨T, hT⟩ : ∃ T, T = wr.heap.size := ⟨_, rfl⟩
      have hst : (storeCells ⟨wr.heap.size, 0, none⟩ Tryd.zeroCells118.toList 0).run Tryd.prog (wr.alloc (.cells Tryd.zeroCells118 118)) = .ok () (wr.alloc (.cells Tryd.zeroCells118 118)) := run_storeCells_new wr 118 _ _ (by kernel_rfl) rfl (by kernel_rfl)
      have HT0 := Aside0.mk (show (wr.alloc (.cells Tryd.zeroCells118 118)).heap[wr.heap.size]? = some (.cells (tabA 0) 118 (0, 0)) by rw [tabA_zero]; exact (MapKept.heap_alloc wr _).1)
      have HW0 := Aside0.mk (below_alloc (Below.refl wr.heap.size wr) (.cells Tryd.zeroCells118 118))
      go_wp2_with fail
      clear hst hT T
      obtain ⟨T, hT⟩ : ∃ T, wr.heap.size = T := ⟨_, rfl⟩
      rw [hT] at HT0 HW0 ⊢
      have HTT := Aside0.mk hT
      have HAT := Aside0.mk (show A < T by rw [← hT]; exact HAL.out)
      clear hT
      have HW1 := Aside0.mk (show Below T w0 (wr.alloc (.cells Tryd.zeroCells118 118)) by rw [HWW.out]; exact HW0.out)
      clear HW0
      have HW0 := HW1
      clear HW1
      go_loopg [61] 256 (fun gg v61 wx => ∃ i : Nat, v61 = .int .i64 (i : Int) ∧ i ≤ 256 ∧ 256 - i ≤ gg ∧ Aside0 (wx.heap[T]? = some (.cells (tabA i) 118 (0, 0))) ∧ Aside0 (Below T w0 wx))
      case atStart => exact ⟨0, rfl, Nat.zero_le _, by omega, HT0, HW0⟩
      case round =>
        clear HT0 HW0
        obtain ⟨i, rfl, hi, hmi, HT0, HW0⟩ := hrel
        by_cases h256 : i < 256
        · have c0 : decide ((i : Int) < 256) = true := decide_eq_true (by omega)
          have hc : ∀ v, wr.cell? ⟨T, i, none⟩ = some v ↔ (tabA i)[i]? = some v := fun v => by rw [blk_cell HT0.out i]
          have hc0 : wr.cell? ⟨T, i, none⟩ = some (.int .u8 0) := by rw [blk_cell HT0.out i, tabA_get i i h256, if_neg (by omega)]
          have hf0 : wr.frozen? ⟨T, i, none⟩ = false := blk_frozen HT0.out i
          have hm : (i : Int) % 256 = (i : Int) := by omega
          have hx1 : ((i : Int) < 256) = True := eq_true (by omega)
          have HS := Aside0.mk (blk_put HT0.out i (.int .u8 (i : Int)) (tabA_set i h256))
          have HB := Aside0.mk (show Below T _ (wr.setCell ⟨T, i, none⟩ (.int .u8 (i : Int))) from HW0.out.setCell (Nat.le_refl T) _)
          clear hc
          go_wp2_with fail
          go_roundg (256 - (i + 1))
          case measure => omega
          case rel => exact ⟨i + 1, by go_num, by omega, Nat.le_refl _, HS, HB⟩
        · obtain rfl : i = 256 := by omega
          have c0 : decide (((256 : Nat) : Int) < 256) = false := by decide
          go_wp2_with fail
          go_loopg [8] 2 (fun gg v8 wx => ∃ i : Int, v8 = .int .i64 i ∧ Aside0 ((i = 2 ∧ 2 ≤ gg ∧ wx.heap[T]? = some (.cells (tabA 256) 118 (0, 0))) ∨ (i = 0 ∧ 1 ≤ gg ∧ wx.heap[T]? = some (.cells ((tabA 256).setIfInBounds 82 (.int .u8 76)) 118 (0, 0))) ∨ (i = -2 ∧ wx.heap[T]? = some (.cells swA 118 (0, 0)))) ∧ Aside0 (Below T w0 wx))
          case atStart => exact ⟨2, rfl, ⟨.inl ⟨rfl, Nat.le_refl _, HT0.out⟩⟩, HW0⟩
          case round =>
            clear HT0 HW0
            obtain ⟨i, rfl, hor, HW0⟩ := hrel
            rcases hor.out with ⟨rfl, hg, hh⟩ | ⟨rfl, hg, hh⟩ | ⟨rfl, hh⟩
            · have HT0 := Aside0.mk hh
              clear hh hor
              have HA2 := Aside0.mk (show wr.heap[A]? = some (.cells cs9 9 (0, 0)) from (HW0.out.block A HAT.out).trans HA.out)
              have a0 : wr.cell? ⟨A, 0, none⟩ = some (.string ⟨#[76]⟩) := (blk_cell HA2.out 0).trans hcs.1
              have a1 : wr.cell? ⟨A, 1, none⟩ = some (.string ⟨#[82]⟩) := (blk_cell HA2.out 1).trans hcs.2.1
              have a2 : wr.cell? ⟨A, 2, none⟩ = some (.string ⟨#[82]⟩) := (blk_cell HA2.out 2).trans hcs.2.2.1
              have a3 : wr.cell? ⟨A, 3, none⟩ = some (.string ⟨#[76]⟩) := (blk_cell HA2.out 3).trans hcs.2.2.2
              have hc0 : ∃ v, wr.cell? ⟨T, 82, none⟩ = some v := ⟨_, (blk_cell HT0.out 82).trans (Array.getElem?_eq_getElem (by simp only [Array.size_setIfInBounds, tabA_size]; omega))⟩
              obtain ⟨v0, hc0⟩ := hc0
              have hf0 : wr.frozen? ⟨T, 82, none⟩ = false := blk_frozen HT0.out 82
              have HS := Aside0.mk (blk_set HT0.out 82 (.int .u8 76))
              have HB := Aside0.mk (show Below T _ (wr.setCell ⟨T, 82, none⟩ (.int .u8 76)) from HW0.out.setCell (Nat.le_refl T) _)
              go_wp2_with fail
              go_roundg 1
              case measure => omega
              case rel => exact ⟨0, by first | rfl | go_num, ⟨.inr (.inl ⟨rfl, Nat.le_refl _, HS.out⟩)⟩, HB⟩
            · have HT0 := Aside0.mk hh
              clear hh hor
              have HA2 := Aside0.mk (show wr.heap[A]? = some (.cells cs9 9 (0, 0)) from (HW0.out.block A HAT.out).trans HA.out)
              have a0 : wr.cell? ⟨A, 0, none⟩ = some (.string ⟨#[76]⟩) := (blk_cell HA2.out 0).trans hcs.1
              have a1 : wr.cell? ⟨A, 1, none⟩ = some (.string ⟨#[82]⟩) := (blk_cell HA2.out 1).trans hcs.2.1
              have a2 : wr.cell? ⟨A, 2, none⟩ = some (.string ⟨#[82]⟩) := (blk_cell HA2.out 2).trans hcs.2.2.1
              have a3 : wr.cell? ⟨A, 3, none⟩ = some (.string ⟨#[76]⟩) := (blk_cell HA2.out 3).trans hcs.2.2.2
              have hc0 : ∃ v, wr.cell? ⟨T, 76, none⟩ = some v := ⟨_, (blk_cell HT0.out 76).trans (Array.getElem?_eq_getElem (by simp only [Array.size_setIfInBounds, tabA_size]; omega))⟩
              obtain ⟨v0, hc0⟩ := hc0
              have hf0 : wr.frozen? ⟨T, 76, none⟩ = false := blk_frozen HT0.out 76
              have HS := Aside0.mk (blk_set HT0.out 76 (.int .u8 82))
              have HB := Aside0.mk (show Below T _ (wr.setCell ⟨T, 76, none⟩ (.int .u8 82)) from HW0.out.setCell (Nat.le_refl T) _)
              go_wp2_with fail
              go_roundg 0
              case measure => omega
              case rel => exact ⟨-2, by first | rfl | go_num, ⟨.inr (.inr ⟨rfl, HS.out⟩)⟩, HB⟩
            · have HT0 := Aside0.mk hh
              clear hh hor
              go_wp2_with fail
              go_ret
              exact ⟨T, rfl, HT0.out, HTT.out, by rw [← HWW.out]; exact HW0.out⟩
theorem bz_cell {w : World} {g : Nat} {t : TypeId} {cs : Array Value} {fz : Nat × Nat} (h : w.heap[g]? = some (.cells cs t fz)) (i : Nat) : w.cell? ⟨g, i, none⟩ = cs[i]? := cell_of_row w g i cs t fz h
theorem bz_frozen {w : World} {g : Nat} {t : TypeId} {cs : Array Value} {m : Nat} (h : w.heap[g]? = some (.cells cs t (m, m + 1))) (i : Nat) (hi : i < m) : w.frozen? ⟨g, i, none⟩ = false := by
  simp [World.frozen?, h]
  omega
theorem bz_set {w : World} {g : Nat} {t : TypeId} {cs : Array Value} {fz : Nat × Nat} (h : w.heap[g]? = some (.cells cs t fz)) (i : Nat) (u : Value) : (w.setCell ⟨g, i, none⟩ u).heap[g]? = some (.cells (cs.setIfInBounds i u) t fz) := by
  simp [World.setCell, Array.getElem?_modify, h]
/-- The byte at a place. -/
def byN (s : ByteArray) (j : Nat) : Nat := (s.data.toList.getD j 0).toNat
theorem byN_lt (s : ByteArray) (j : Nat) : byN s j < 256 := by unfold byN; exact UInt8.toNat_lt _
theorem byN_at (s : ByteArray) (j : Nat) (h : j < s.size) : (s[j]'h).toNat = byN s j := by
  unfold byN
  have h' : j < s.data.toList.length := by rw [data_length]; exact h
  rw [List.getD_eq_getElem?_getD, List.getElem?_eq_getElem h', Option.getD_some]
  rfl
theorem swN_lt (j : Nat) (h : j < 256) : swN j < 256 := by unfold swN; split <;> (try split) <;> omega
def swL (s : ByteArray) : List Int := s.data.toList.map fun b => ((swN b.toNat : Nat) : Int)
theorem swL_len (s : ByteArray) : (swL s).length = s.size := by unfold swL; rw [List.length_map, data_length]
theorem swL_get (s : ByteArray) (j : Nat) (h : j < s.size) : (swL s).getD j 0 = ((swN (byN s j) : Nat) : Int) := by
  have h' : j < s.data.toList.length := by rw [data_length]; exact h
  unfold swL byN
  rw [List.getD_eq_getElem?_getD, List.getElem?_map, List.getD_eq_getElem?_getD, List.getElem?_eq_getElem h']
  rfl
def swB (s : ByteArray) : ByteArray := strOfNums (swL s)
theorem swB_same (s : ByteArray) (h : ∀ j, j < s.size → swN (byN s j) = byN s j) : swB s = s := by
  apply ByteArray.ext
  apply Array.toList_inj.1
  unfold swB
  rw [strOfNums_data]
  apply List.ext_getElem
  · rw [List.length_map, swL_len, data_length]
  · intro j h1 h2
    have hj : j < s.size := by rw [data_length] at h2; exact h2
    have e := swL_get s j hj
    have hl : j < (swL s).length := by rw [swL_len]; exact hj
    rw [List.getD_eq_getElem?_getD, List.getElem?_eq_getElem hl, Option.getD_some] at e
    rw [List.getElem_map, e, h j hj]
    unfold byN
    rw [List.getD_eq_getElem?_getD, List.getElem?_eq_getElem h2, Option.getD_some]
    simp
/-- The bytes while they are exchanged: those ahead of i are. -/
def mixN (s : ByteArray) (i j : Nat) : Nat := if j < i then swN (byN s j) else byN s j
theorem bytesCells_get (w : World) (e : TypeId) (s : ByteArray) (j : Nat) (h : j < s.size) : (Lib.bytesCells w e s)[j]? = some (.int .u8 (byN s j : Int)) := by
  have h1 := Lib.bytesWorld_cell w e s j h
  rw [bz_cell (Lib.bytesWorld_at_new w e s) j] at h1
  exact h1
theorem bytesCells_size (w : World) (e : TypeId) (s : ByteArray) : s.size ≤ (Lib.bytesCells w e s).size := by
  unfold Lib.bytesCells
  rw [Array.size_append, Array.size_map]
  have : s.data.size = s.size := rfl
  omega
theorem mix_next (s : ByteArray) (i : Nat) (cs : Array Value) (h : ∀ j, j < s.size → cs[j]? = some (.int .u8 (mixN s i j : Int))) (hi : i < s.size) : ∀ j, j < s.size → (cs.setIfInBounds i (.int .u8 (swN (byN s i) : Int)))[j]? = some (.int .u8 (mixN s (i + 1) j : Int)) := by
  intro j hj
  have hi2 := h i hi
  have hlt : i < cs.size := (Array.getElem?_eq_some_iff.1 hi2).1
  rw [Array.getElem?_setIfInBounds]
  by_cases e : i = j
  · subst e
    rw [if_pos rfl, if_pos hlt]
    unfold mixN
    rw [if_pos (by omega)]
  · rw [if_neg e, h j hj]
    unfold mixN
    by_cases h1 : j < i
    · rw [if_pos h1, if_pos (by omega)]
    · rw [if_neg h1, if_neg (by omega)]
theorem mix_same (s : ByteArray) (i : Nat) (hn : swN (byN s i) = byN s i) (j : Nat) : mixN s (i + 1) j = mixN s i j := by
  unfold mixN
  by_cases h1 : j < i
  · rw [if_pos h1, if_pos (by omega)]
  · rw [if_neg h1]
    by_cases h2 : j = i
    · subst h2; rw [if_pos (by omega), hn]
    · rw [if_neg (by omega)]
theorem mix_zero (s : ByteArray) (i : Nat) (h : ∀ j, j < i → swN (byN s j) = byN s j) (j : Nat) : mixN s i j = byN s j := by
  unfold mixN
  split
  · rename_i h1; exact h j h1
  · rfl
set_option maxHeartbeats 8000000 in
set_option maxRecDepth 100000 in
theorem replace_walk (T : Nat) (s : ByteArray) (w : World) (hs : s.size ≤ 1000000) (hT : w.heap[T]? = some (.cells swA 118 (0, 0))) :
    Calls Tryd.prog 142 #[.pointer (some ⟨T, 0, none⟩), .string s] w fun e w' => e = .returned (.string (swB s)) ∧ Below w.heap.size w w' := by
  have HT := Aside0.mk hT
  clear hT
  have HB := Aside0.mk (Below.refl w.heap.size w)
  go_enter Tryd.func142, Tryd.ntmps142
  go_wp2_with fail
  go_loopg [5, 6] s.size (fun gg v5 v6 wr => ∃ i : Nat, v6 = .int .i64 (i : Int) ∧ i ≤ s.size ∧ s.size - i ≤ gg ∧ Aside0 (Below w.heap.size w wr) ∧ Aside0 ((v5 = .slice none 0 0 ∧ ∀ j, j < i → swN (byN s j) = byN s j) ∨ ∃ g cap cs m, v5 = .slice (some ⟨g, 0, none⟩) s.size cap ∧ w.heap.size ≤ g ∧ wr.heap[g]? = some (.cells cs 5 (m, m + 1)) ∧ s.size ≤ m ∧ m = cs.size ∧ ∀ j, j < s.size → cs[j]? = some (.int .u8 (mixN s i j : Int))))
  case atStart => exact ⟨0, rfl, Nat.zero_le _, by omega, HB, ⟨.inl ⟨rfl, fun j hj => absurd hj (Nat.not_lt_zero _)⟩⟩⟩
  case round =>
    clear HB
    obtain ⟨i, rfl, hi, hmi, HB, HOR⟩ := hrel
    by_cases his : i < s.size
    · have c0 : decide ((i : Int) < (s.size : Int)) = true := decide_eq_true (by omega)
      obtain ⟨b, hb⟩ : ∃ b, b = byN s i := ⟨_, rfl⟩
      have hb256 := byN_lt s i
      rw [← hb] at hb256
      have hx : ∀ h, ((s[i]'h).toNat : Int) = (b : Int) := fun h => by rw [byN_at s i h, hb]
      have hxt : wr.cell? ⟨T, b, none⟩ = some (.int .u8 (swN b : Int)) := by
        have := HB.out.block T (blk_lt HT.out)
        rw [blk_cell (this.trans HT.out) b]
        exact swA_get b hb256
      have HBB := Aside0.mk hb
      clear hb
      rcases HOR.out with ⟨hv, hall⟩ | ⟨g, cap, cs, m, hv, hg, hh, hm1, hm2, hcs⟩
      · subst hv
        have HALL := Aside0.mk hall
        clear hall HOR
        have qN : ∀ (W : World), (binOp .eql 32 (.slice none 0 0) (.slice none 0 0)).run Tryd.prog W = .ok (.bool true) W := fun W => rfl
        by_cases hsw : swN b = b
        · have hq : ((swN b : Int) != (b : Int)) = false := by rw [hsw]; simp
          have HSW := Aside0.mk hsw
          clear hsw
          go_wp2_with fail
          go_roundg (s.size - (i + 1))
          case measure => omega
          case rel =>
            refine ⟨i + 1, by go_num, by omega, Nat.le_refl _, HB, ⟨.inl ⟨rfl, fun j hj => ?_⟩⟩⟩
            by_cases e : j = i
            · subst e; rw [← HBB.out]; exact HSW.out
            · exact HALL.out j (by omega)
        · have hq : ((swN b : Int) != (b : Int)) = true := by rw [bne_iff_ne]; omega
          clear hsw
          have kb := print_bytes (P := Tryd.prog) 9 32 5 Tryd.underlying9 Tryd.underlying32 Tryd.underlying5 s wr
          have hn1 := Lib.bytesWorld_at_new wr 5 s
          have hcs := bytesCells_size wr 5 s
          have hcell : (Lib.bytesWorld wr 5 s).cell? ⟨wr.heap.size, i, none⟩ = some (.int .u8 (b : Int)) := by rw [bz_cell hn1 i, bytesCells_get wr 5 s i his, ← HBB.out]
          have hfz : (Lib.bytesWorld wr 5 s).frozen? ⟨wr.heap.size, i, none⟩ = false := bz_frozen hn1 i (by omega)
          have hxt2 : (Lib.bytesWorld wr 5 s).cell? ⟨T, b, none⟩ = some (.int .u8 (swN b : Int)) := by
            rw [Lib.bytesWorld_old wr 5 s ⟨T, b, none⟩ (World.block_lt_of_cell? _ _ hxt)]
            exact hxt
          have HN2 := Aside0.mk (bz_set hn1 i (.int .u8 (swN b : Int)))
          have HBW := Aside0.mk (show Below w.heap.size w ((Lib.bytesWorld wr 5 s).setCell ⟨wr.heap.size, i, none⟩ (.int .u8 (swN b : Int))) from (bytes_below HB.out HB.out.size 5 s).setCell HB.out.size _)
          have HCS := Aside0.mk hcs
          have HSZ := Aside0.mk HB.out.size
          clear hn1 hcs
          go_wp2_with fail
          go_roundg (s.size - (i + 1))
          case measure => omega
          case rel =>
            refine ⟨i + 1, by go_num, by omega, Nat.le_refl _, HBW, ⟨.inr ⟨_, _, _, _, rfl, HSZ.out, HN2.out, by have := HCS.out; omega, by rw [Array.size_setIfInBounds], ?_⟩⟩⟩
            rw [HBB.out]
            refine mix_next s i _ (fun j hj => ?_) his
            rw [bytesCells_get wr 5 s j hj, mix_zero s i HALL.out j]
      · subst hv
        have HCS := Aside0.mk hcs
        clear hcs HOR
        have hlt : i < cs.size := by omega
        have hcell : wr.cell? ⟨g, i, none⟩ = some (.int .u8 (b : Int)) := by
          rw [bz_cell hh i, HCS.out i his, HBB.out]
          unfold mixN
          rw [if_neg (by omega)]
        have hfz : wr.frozen? ⟨g, i, none⟩ = false := bz_frozen hh i (by omega)
        have qN : ∀ (W : World), (binOp .eql 32 (.slice (some ⟨g, 0, none⟩) s.size cap) (.slice none 0 0)).run Tryd.prog W = .ok (.bool false) W := fun W => rfl
        have HH := Aside0.mk hh
        have HG := Aside0.mk hg
        have HM := Aside0.mk (show s.size ≤ m ∧ m = cs.size from ⟨hm1, hm2⟩)
        clear hh hg
        by_cases hsw : swN b = b
        · have hq : ((swN b : Int) != (b : Int)) = false := by rw [hsw]; simp
          have HSW := Aside0.mk hsw
          clear hsw hm1 hm2
          go_wp2_with fail
          go_roundg (s.size - (i + 1))
          case measure => omega
          case rel =>
            refine ⟨i + 1, by go_num, by omega, Nat.le_refl _, HB, ⟨.inr ⟨_, _, _, _, rfl, HG.out, HH.out, HM.out.1, HM.out.2, fun j hj => ?_⟩⟩⟩
            rw [HCS.out j hj, mix_same s i (by rw [← HBB.out]; exact HSW.out) j]
        · have hq : ((swN b : Int) != (b : Int)) = true := by rw [bne_iff_ne]; omega
          clear hsw hm1 hm2
          have HN2 := Aside0.mk (bz_set HH.out i (.int .u8 (swN b : Int)))
          have HBW := Aside0.mk (show Below w.heap.size w (wr.setCell ⟨g, i, none⟩ (.int .u8 (swN b : Int))) from HB.out.setCell HG.out _)
          go_wp2_with fail
          go_roundg (s.size - (i + 1))
          case measure => omega
          case rel =>
            refine ⟨i + 1, by go_num, by omega, Nat.le_refl _, HBW, ⟨.inr ⟨_, _, _, _, rfl, HG.out, HN2.out, HM.out.1, by rw [Array.size_setIfInBounds]; exact HM.out.2, ?_⟩⟩⟩
            rw [HBB.out]
            exact mix_next s i cs HCS.out his
    · obtain rfl : i = s.size := by omega
      have c0 : decide ((s.size : Int) < (s.size : Int)) = false := decide_eq_false (by omega)
      rcases HOR.out with ⟨hv, hall⟩ | ⟨g, cap, cs, m, hv, hg, hh, hm1, hm2, hcs⟩
      · subst hv
        have e := Aside0.mk (swB_same s hall)
        clear hall HOR
        have qN : ∀ (W : World), (binOp .eql 32 (.slice none 0 0) (.slice none 0 0)).run Tryd.prog W = .ok (.bool true) W := fun W => rfl
        go_wp2_with fail
        go_ret
        exact ⟨by rw [e.out]; rfl, HB.out⟩
      · subst hv
        have hrd : ReadsInt wr .u8 (some ⟨g, 0, none⟩) s.size (swL s) := ⟨swL_len s, by omega, fun _ => ⟨_, rfl, fun j hj => by
          rw [add_plain, bz_cell hh j, hcs j hj, swL_get s j hj]
          unfold mixN
          rw [if_pos hj]⟩⟩
        have hcv := string_of_reads (P := Tryd.prog) (c := cap) Tryd.underlying32 Tryd.underlying5 Tryd.underlying9 hrd
        have qN : ∀ (W : World), (binOp .eql 32 (.slice (some ⟨g, 0, none⟩) s.size cap) (.slice none 0 0)).run Tryd.prog W = .ok (.bool false) W := fun W => rfl
        clear hrd hh hcs hm1 hm2 hg HOR
        go_wp2_with fail
        go_ret
        exact ⟨rfl, HB.out⟩
theorem rp_disable (w : World) : (callFunc 94 #[]).run Tryd.prog w = .ok (.value (.tuple #[])) w := run_call_mark0 Tryd.func94 (by kernel_rfl) (by kernel_rfl) (by kernel_rfl) .disable (by kernel_rfl) w
theorem rp_enable (w : World) : (callFunc 96 #[]).run Tryd.prog w = .ok (.value (.tuple #[])) w := run_call_mark0 Tryd.func96 (by kernel_rfl) (by kernel_rfl) (by kernel_rfl) .enable (by kernel_rfl) w
theorem rp_acquire (a : Addr) (w : World) : (callFunc 97 #[.pointer (some a)]).run Tryd.prog w = .ok (.value (.tuple #[])) w := run_call_marked Tryd.func97 (by kernel_rfl) (by kernel_rfl) (by kernel_rfl) .acquire (by kernel_rfl) a w
theorem rp_releaseMerge (a : Addr) (w : World) : (callFunc 99 #[.pointer (some a)]).run Tryd.prog w = .ok (.value (.tuple #[])) w := run_call_marked Tryd.func99 (by kernel_rfl) (by kernel_rfl) (by kernel_rfl) .releaseMerge (by kernel_rfl) a w
theorem rp_store (a : Addr) (x : Value) (u : FrameMode) (w : World) (hc : w.cell? a = some x) (hz : w.frozen? a = false) :
    CallsD Tryd.prog 79 #[.pointer (some a), .bool true] u w fun e u' w' => u' = u ∧ (e = .returned (.tuple #[]) ∧ w' = w.drew.setCell a (.int .u32 1)) := by
  have hc' : w.drew.cell? a = some x := by go_simp
  have hz' : w.drew.frozen? a = false := by go_simp
  have hst := run_call_store (P := Tryd.prog) Tryd.func89 (by kernel_rfl) (by kernel_rfl) (by kernel_rfl) (by kernel_rfl) (k := .u32) (y := 1) hc' hz'
  go_enter_d Tryd.func79, Tryd.ntmps79
  go_wp2
  go_region_calls
  all_goals (go_end0; exact ⟨rfl, rfl⟩)
set_option maxHeartbeats 1600000 in
set_option maxRecDepth 100000 in
theorem rp_unlock (a : Addr) (u : FrameMode) (w : World) (hc : w.cell? a = some (.int .i32 1)) (hz : w.frozen? a = false) :
    CallsD Tryd.prog 78 #[.pointer (some a)] u w fun e u' w' => u' = u ∧ (e = .returned (.tuple #[]) ∧ w' = w.setCell a (.int .i32 0)) := by
  have hd := rp_disable
  have he := rp_enable
  have hr := rp_releaseMerge
  have hadd := run_call_add (P := Tryd.prog) Tryd.func100 (by kernel_rfl) (by kernel_rfl) (by kernel_rfl) .i32 (by kernel_rfl) (y := -1) (s := 0) hc hz (by simp [go_sem]; rfl)
  have hcv := run_convert_to_unsafe (P := Tryd.prog) (src := 148) (dst := 152) Tryd.underlying148 Tryd.underlying152 (by kernel_rfl) hc
  go_enter_d Tryd.func78, Tryd.ntmps78
  go_wp2
  go_end0
  go_wp2
  go_end0
  exact ⟨rfl, rfl⟩
set_option maxHeartbeats 1600000 in
set_option maxRecDepth 100000 in
theorem rp_lock (a : Addr) (w : World) (hc : w.cell? a = some (.int .i32 0)) (hz : w.frozen? a = false) :
    Calls Tryd.prog 77 #[.pointer (some a)] w fun e w' => e = .returned (.tuple #[]) ∧ w' = w.setCell a (.int .i32 1) := by
  have hd := rp_disable
  have he := rp_enable
  have ha := rp_acquire
  have hcas := run_call_cas_hit (P := Tryd.prog) Tryd.func95 (by kernel_rfl) (by kernel_rfl) (by kernel_rfl) .i32 (by kernel_rfl) (y := 1) hc hz
  have hc' : (w.setCell a (.int .i32 1)).cell? a = some (.int .i32 1) := World.cell?_setCell_same w a _ hc
  have hcv := run_convert_to_unsafe (P := Tryd.prog) (src := 148) (dst := 152) Tryd.underlying148 Tryd.underlying152 (by kernel_rfl) hc'
  go_enter Tryd.func77, Tryd.ntmps77
  go_wp2
  first | go_end0 | (simp only [Exit.inBlock, Exit.then]; refine bodyPost_ret (results_none rfl _ _ _) rfl ?_) | refine bodyPost_ret (results_none rfl _ _ _) rfl ?_
  go_wp2
  go_end0
  exact ⟨rfl, rfl⟩
set_option maxHeartbeats 1600000 in
set_option maxRecDepth 100000 in
theorem rp_load (a : Addr) (x : Int) (w : World) (hc : w.cell? a = some (.int .u32 x)) :
    Calls Tryd.prog 65 #[.pointer (some a)] w fun e w' => e = .returned (.bool (x != 0)) ∧ w' = w := by
  have hl := run_call_load (P := Tryd.prog) Tryd.func76 (by kernel_rfl) (by kernel_rfl) (by kernel_rfl) .u32 (by kernel_rfl) hc
  go_enter Tryd.func65, Tryd.ntmps65
  go_wp2
  go_ret
  exact ⟨rfl, rfl⟩
/-- The Replacer ahead of its first use. -/
def repl0 (A cap : Nat) (d st : Int) (r : Value) : Array Value := #[.int .u32 d, .int .i32 st, .int .u32 0, r, .slice (some ⟨A, 0, none⟩) 4 cap]
theorem below_then' {B : Nat} {w0 w w1 : World} (h : Below B w0 w) (hb : Below w.heap.size w w1) (hB : B ≤ w.heap.size) : Below B w0 w1 := below_then h hB hb
set_option maxHeartbeats 4000000 in
set_option maxRecDepth 100000 in
theorem buildOnce_walk (R A cap : Nat) (w : World) (hR : w.heap[R]? = some (.cells (repl0 A cap 0 1 .nilIface) 80 (0, 0))) (cs9 : Array Value) (hcs : LR4 cs9) (hA : w.heap[A]? = some (.cells cs9 9 (0, 0))) :
    Calls Tryd.prog 49 #[.pointer (some ⟨R, 0, none⟩)] w fun e w' => e = .returned (.tuple #[]) ∧
      ∃ T, w'.heap[R]? = some (.cells #[.int .u32 0, .int .i32 1, .int .u32 0, .iface 119 (.pointer (some ⟨T, 0, none⟩)), .slice none 0 0] 80 (0, 0)) ∧ w'.heap[T]? = some (.cells swA 118 (0, 0)) ∧ w.heap.size ≤ w'.heap.size ∧ ∀ (w0 : World) (B : Nat), B ≤ R → B ≤ w.heap.size → Below B w0 w → Below B w0 w' := by
  have hB := build_walk R A cap w ((blk_cell hR 4).trans rfl) cs9 hcs hA
  have HBW := Aside0.mk hB
  have HR := Aside0.mk hR
  clear hR hA hB
  go_enter Tryd.func49, Tryd.ntmps49
  go_wp2_with fail
  refine HBW.out.mono ?_
  rintro e w1 ⟨T, rfl, hT, hsz, hb⟩
  have hR1 : w1.heap[R]? = some (.cells (repl0 A cap 0 1 .nilIface) 80 (0, 0)) := (hb.block R (by have := blk_lt HR.out; omega)).trans HR.out
  have hRT : R < T := by have := blk_lt HR.out; omega
  have z3 : w1.cell? ⟨R, 3, none⟩ = some .nilIface := (blk_cell hR1 3).trans rfl
  have z4 : w1.cell? ⟨R, 4, none⟩ = some (.slice (some ⟨A, 0, none⟩) 4 cap) := (blk_cell hR1 4).trans rfl
  have g3 : w1.frozen? ⟨R, 3, none⟩ = false := blk_frozen hR1 3
  have g4 : w1.frozen? ⟨R, 4, none⟩ = false := blk_frozen hR1 4
  have hR2 := blk_put hR1 3 (.iface 119 (.pointer (some ⟨T, 0, none⟩))) (cs' := repl0 A cap 0 1 (.iface 119 (.pointer (some ⟨T, 0, none⟩)))) (by rfl)
  have y4 : (w1.setCell ⟨R, 3, none⟩ (.iface 119 (.pointer (some ⟨T, 0, none⟩)))).cell? ⟨R, 4, none⟩ = some (.slice (some ⟨A, 0, none⟩) 4 cap) := (blk_cell hR2 4).trans rfl
  have k4 : (w1.setCell ⟨R, 3, none⟩ (.iface 119 (.pointer (some ⟨T, 0, none⟩)))).frozen? ⟨R, 4, none⟩ = false := blk_frozen hR2 4
  have HR3 := Aside0.mk (blk_put hR2 4 (.slice none 0 0) (cs' := #[.int .u32 0, .int .i32 1, .int .u32 0, .iface 119 (.pointer (some ⟨T, 0, none⟩)), .slice none 0 0]) (by rfl))
  have HT3 := Aside0.mk (blk_far (blk_far hT (p := ⟨R, 3, none⟩) (by show T ≠ R; omega) (.iface 119 (.pointer (some ⟨T, 0, none⟩)))) (p := ⟨R, 4, none⟩) (by show T ≠ R; omega) (.slice none 0 0))
  have HBE := Aside0.mk (show ∀ (w0 : World) (B : Nat), B ≤ R → B ≤ w.heap.size → Below B w0 w → Below B w0 w1 from fun w0 B _ h2 h3 => below_then h3 h2 (hsz ▸ hb))
  have HSS := Aside0.mk (show w.heap.size ≤ w1.heap.size from hb.size)
  clear hT hsz hb hR1 hRT hR2
  go_wp2_with fail
  go_end0
  refine ⟨rfl, T, HR3.out, HT3.out, by simp only [World.setCell, Array.size_modify]; exact HSS.out, fun w0 B h1 h2 h3 => ((HBE.out w0 B h1 h2 h3).setCell h1 _).setCell h1 _⟩
set_option maxHeartbeats 4000000 in
set_option maxRecDepth 100000 in
theorem slow_walk (R A cap : Nat) (w : World) (hR : w.heap[R]? = some (.cells (repl0 A cap 0 0 .nilIface) 80 (0, 0))) (cs9 : Array Value) (hcs : LR4 cs9) (hA : w.heap[A]? = some (.cells cs9 9 (0, 0))) :
    Calls Tryd.prog 66 #[.pointer (some ⟨R, 0, none⟩), .func (.func 49) #[.pointer (some ⟨R, 0, none⟩)] #[]] w fun e w' => e = .returned (.tuple #[]) ∧
      ∃ T, w'.cell? ⟨R, 3, none⟩ = some (.iface 119 (.pointer (some ⟨T, 0, none⟩))) ∧ w'.heap[T]? = some (.cells swA 118 (0, 0)) ∧ ∀ (w0 : World) (B : Nat), B ≤ R → B ≤ w.heap.size → Below B w0 w → Below B w0 w' := by
  have hRA : A ≠ R := blk_ne hA hR (by decide)
  have HRA := Aside0.mk hRA
  have h0 : w.cell? ⟨R, 0, none⟩ = some (.int .u32 0) := (blk_cell hR 0).trans rfl
  have h1 : w.cell? ⟨R, 1, none⟩ = some (.int .i32 0) := (blk_cell hR 1).trans rfl
  have f1 : w.frozen? ⟨R, 1, none⟩ = false := blk_frozen hR 1
  have hR1 := blk_put hR 1 (.int .i32 1) (cs' := repl0 A cap 0 1 .nilIface) (by rfl)
  have hA1 := blk_far hA (p := ⟨R, 1, none⟩) hRA (.int .i32 1)
  have hnot : ∀ (x : Bool) (w : World), (Op.unary .not (.bool x)).run Tryd.prog w = .ok (.bool (!x)) w := fun _ _ => rfl
  have HR1 := Aside0.mk hR1
  have HA1 := Aside0.mk hA1
  have HSZ := Aside0.mk (show w.heap.size = (w.setCell ⟨R, 1, none⟩ (.int .i32 1)).heap.size by simp [World.setCell])
  have HRS := Aside0.mk (blk_lt hR)
  clear hR hA hRA hR1 hA1
  go_enter_defers Tryd.func66, Tryd.ntmps66
  go_wp2_with (go_at_call 77; refine (rp_lock ⟨R, 1, none⟩ _ h1 f1).mono ?_; rintro e w' ⟨rfl, rfl⟩)
  clear h0 h1 f1
  have hl0 : (w.setCell ⟨R, 1, none⟩ (.int .i32 1)).cell? ⟨R, 0, none⟩ = some (.int .u32 0) := (blk_cell HR1.out 0).trans rfl
  refine (rp_load ⟨R, 0, none⟩ 0 _ hl0).mono ?_
  rintro e w' ⟨rfl, rfl⟩
  clear hl0
  have h00 : ((0 : Int) != 0) = false := by decide
  go_wp2_with fail
  refine (buildOnce_walk R A cap _ HR1.out cs9 hcs HA1.out).mono ?_
  rintro e w2 ⟨rfl, T, hR2, hT2, hss, hbe⟩
  have HR2 := Aside0.mk hR2
  have HT2 := Aside0.mk hT2
  have HBE := Aside0.mk hbe
  clear hR2 hT2 hbe hss
  go_wp2_with fail
  go_wp2
  have z0 : w2.cell? ⟨R, 0, none⟩ = some (.int .u32 0) := (blk_cell HR2.out 0).trans rfl
  have y0 : w2.frozen? ⟨R, 0, none⟩ = false := blk_frozen HR2.out 0
  have hR3 := blk_put (w := w2.drew) HR2.out 0 (.int .u32 1) (cs' := #[.int .u32 1, .int .i32 1, .int .u32 0, .iface 119 (.pointer (some ⟨T, 0, none⟩)), .slice none 0 0]) (by rfl)
  have hR4 := blk_put hR3 1 (.int .i32 0) (cs' := #[.int .u32 1, .int .i32 0, .int .u32 0, .iface 119 (.pointer (some ⟨T, 0, none⟩)), .slice none 0 0]) (by rfl)
  have hTR : T ≠ R := blk_ne HT2.out HR2.out (by decide)
  have hT4 := blk_far (blk_far (w := w2.drew) HT2.out (p := ⟨R, 0, none⟩) hTR (.int .u32 1)) (p := ⟨R, 1, none⟩) hTR (.int .i32 0)
  refine leaves_cons (f := 79) (args := #[.pointer (some ⟨R, 0, none⟩), .bool true]) (by simp) (by simp [go_sem]) ?_
  refine (rp_store ⟨R, 0, none⟩ (.int .u32 0) .returning _ z0 y0).mono ?_
  rintro e u' w'' ⟨rfl, rfl, rfl⟩
  refine leaves_cons (f := 78) (args := #[.pointer (some ⟨R, 1, none⟩)]) (by simp [settle]) (by simp [go_sem]) ?_
  refine (rp_unlock ⟨R, 1, none⟩ _ _ ((blk_cell hR3 1).trans rfl) (blk_frozen hR3 1)).mono ?_
  rintro e u' w'' ⟨rfl, rfl, rfl⟩
  have hfin : ∃ T, (((w2.drew.setCell ⟨R, 0, none⟩ (.int .u32 1)).setCell ⟨R, 1, none⟩ (.int .i32 0)).cell? ⟨R, 3, none⟩ = some (.iface 119 (.pointer (some ⟨T, 0, none⟩))) ∧ ((w2.drew.setCell ⟨R, 0, none⟩ (.int .u32 1)).setCell ⟨R, 1, none⟩ (.int .i32 0)).heap[T]? = some (.cells swA 118 (0, 0)) ∧ ∀ (w0 : World) (B : Nat), B ≤ R → B ≤ w.heap.size → Below B w0 w → Below B w0 ((w2.drew.setCell ⟨R, 0, none⟩ (.int .u32 1)).setCell ⟨R, 1, none⟩ (.int .i32 0))) :=
    ⟨T, (blk_cell hR4 3).trans rfl, hT4, fun w0 B h1 h2 h3 => (Below.setCell (below_drew (HBE.out w0 B h1 (by rw [← HSZ.out]; exact h2) (h3.setCell h1 _))) h1 _).setCell h1 _⟩
  simpa [Leaves, settle, results, Tryd.results66] using hfin
set_option maxHeartbeats 4000000 in
set_option maxRecDepth 100000 in
theorem do_walk (R A cap : Nat) (w : World) (hR : w.heap[R]? = some (.cells (repl0 A cap 0 0 .nilIface) 80 (0, 0))) (cs9 : Array Value) (hcs : LR4 cs9) (hA : w.heap[A]? = some (.cells cs9 9 (0, 0))) :
    Calls Tryd.prog 48 #[.pointer (some ⟨R, 0, none⟩), .func (.func 49) #[.pointer (some ⟨R, 0, none⟩)] #[]] w fun e w' => e = .returned (.tuple #[]) ∧
      ∃ T, w'.cell? ⟨R, 3, none⟩ = some (.iface 119 (.pointer (some ⟨T, 0, none⟩))) ∧ w'.heap[T]? = some (.cells swA 118 (0, 0)) ∧ ∀ (w0 : World) (B : Nat), B ≤ R → B ≤ w.heap.size → Below B w0 w → Below B w0 w' := by
  have HS := Aside0.mk (slow_walk R A cap w hR cs9 hcs hA)
  have HL := Aside0.mk (rp_load ⟨R, 0, none⟩ 0 w ((blk_cell hR 0).trans rfl))
  have hnot : ∀ (x : Bool) (w : World), (Op.unary .not (.bool x)).run Tryd.prog w = .ok (.bool (!x)) w := fun _ _ => rfl
  have h00 : ((0 : Int) != 0) = false := by decide
  clear hR hA
  go_enter Tryd.func48, Tryd.ntmps48
  go_wp2_with fail
  refine HL.out.mono ?_
  rintro e w1 ⟨rfl, rfl⟩
  go_wp2_with fail
  refine HS.out.mono ?_
  rintro e w2 ⟨rfl, hx⟩
  have HX := Aside0.mk hx
  clear hx
  go_wp2_with fail
  go_end0
  exact ⟨rfl, HX.out⟩
set_option maxHeartbeats 4000000 in
set_option maxRecDepth 100000 in
theorem repl_walk (R A cap : Nat) (s : ByteArray) (w : World) (hs : s.size ≤ 1000000) (hR : w.heap[R]? = some (.cells (repl0 A cap 0 0 .nilIface) 80 (0, 0))) (cs9 : Array Value) (hcs : LR4 cs9) (hA : w.heap[A]? = some (.cells cs9 9 (0, 0))) :
    Calls Tryd.prog 35 #[.pointer (some ⟨R, 0, none⟩), .string s] w fun e w' => e = .returned (.string (swB s)) ∧ ∀ (w0 : World) (B : Nat), B ≤ R → B ≤ w.heap.size → Below B w0 w → Below B w0 w' := by
  have HD := Aside0.mk (do_walk R A cap w hR cs9 hcs hA)
  have hmf : ∀ (fn : Fn) (first cap : Array Value) (w : World), (Instr.makeFunc fn first cap).run Tryd.prog w = .ok (.func fn first cap) w := fun _ _ _ _ => rfl
  have HSZ := Aside0.mk hs
  have HRZ := Aside0.mk (blk_lt hR)
  clear hR hA hs
  go_enter Tryd.func35, Tryd.ntmps35
  go_wp2_with fail
  refine HD.out.mono ?_
  rintro e w1 ⟨rfl, T, hc, hT, hb⟩
  have HR := Aside0.mk (replace_walk T s w1 HSZ.out hT)
  have HBE := Aside0.mk hb
  have HLE := Aside0.mk (show w.heap.size ≤ w1.heap.size from (hb w R (Nat.le_refl _) (Nat.le_of_lt HRZ.out) (Below.refl R w)).size)
  have hm : ∀ w : World, (method 304 119 (.pointer (some ⟨T, 0, none⟩)) "Replace").run Tryd.prog w = .ok (142, .pointer (some ⟨T, 0, none⟩)) w := fun _ => by kernel_rfl
  clear hT hb
  go_wp2_with fail
  refine HR.out.mono ?_
  rintro e w2 ⟨rfl, hb2⟩
  have HB2 := Aside0.mk hb2
  clear hb2
  go_wp2_with fail
  go_ret
  exact ⟨rfl, fun w0 B h1 h2 h3 => below_then (HBE.out w0 B h1 h2 h3) (Nat.le_trans h2 (HLE.out)) HB2.out⟩
set_option maxHeartbeats 4000000 in
set_option maxRecDepth 100000 in
theorem newRepl_walk (A : Nat) (w : World) (cs9 : Array Value) (hcs : LR4 cs9) (hA : w.heap[A]? = some (.cells cs9 9 (0, 0))) :
    Calls Tryd.prog 34 #[.slice (some ⟨A, 0, none⟩) 4 4] w fun e w' => ∃ R A' cap cs', e = .returned (.pointer (some ⟨R, 0, none⟩)) ∧ w'.heap[R]? = some (.cells (repl0 A' cap 0 0 .nilIface) 80 (0, 0)) ∧ LR4 cs' ∧ w'.heap[A']? = some (.cells cs' 9 (0, 0)) ∧ w.heap.size ≤ R ∧ Below w.heap.size w w' := by
  have HA := Aside0.mk hA
  have a0 : w.cell? ⟨A, 0, none⟩ = some (.string ⟨#[76]⟩) := (blk_cell hA 0).trans hcs.1
  have a1 : w.cell? ⟨A, 1, none⟩ = some (.string ⟨#[82]⟩) := (blk_cell hA 1).trans hcs.2.1
  have a2 : w.cell? ⟨A, 2, none⟩ = some (.string ⟨#[82]⟩) := (blk_cell hA 2).trans hcs.2.2.1
  have a3 : w.cell? ⟨A, 3, none⟩ = some (.string ⟨#[76]⟩) := (blk_cell hA 3).trans hcs.2.2.2
  clear hA
  go_enter Tryd.func34, Tryd.ntmps34
  go_wp2_with fail
  go_ret
  generalize (Question.appendCap 4 0 9).cut (w.tape w.drawn (Question.appendCap 4 0 9)) = cap
  have e : ∀ X : Obj, (w.alloc X).heap.size = w.heap.size + 1 := fun X => by simp
  refine ⟨w.heap.size + 1, w.heap.size, cap, _, rfl, ?_, ⟨?_, ?_, ?_, ?_⟩, blk_drew (blk_alloc (MapKept.heap_alloc w _).1 _), Nat.le_succ _, below_drew (below_alloc (below_alloc (Below.refl _ _) _) _)⟩
  · refine blk_drew ?_
    rw [← e]
    exact (MapKept.heap_alloc _ _).1
  all_goals (rw [Array.getElem?_append_left (by decide)]; rfl)
set_option maxHeartbeats 4000000 in
set_option maxRecDepth 100000 in
theorem mirrored_walk (s : ByteArray) (w : World) (hs : s.size ≤ 1000000) :
    Calls Tryd.prog 18 #[.string s] w fun e w' => e = .returned (.string (swB s)) ∧ Below w.heap.size w w' := by
  have hA : (w.alloc (.cells #[.string ⟨#[76]⟩, .string ⟨#[82]⟩, .string ⟨#[82]⟩, .string ⟨#[76]⟩] 9)).heap[w.heap.size]? = some (.cells #[.string ⟨#[76]⟩, .string ⟨#[82]⟩, .string ⟨#[82]⟩, .string ⟨#[76]⟩] 9 (0, 0)) := (MapKept.heap_alloc w _).1
  have HN := Aside0.mk (newRepl_walk w.heap.size _ _ ⟨rfl, rfl, rfl, rfl⟩ hA)
  have HB := Aside0.mk (below_alloc (Below.refl w.heap.size w) (.cells #[.string ⟨#[76]⟩, .string ⟨#[82]⟩, .string ⟨#[82]⟩, .string ⟨#[76]⟩] 9))
  have HZ := Aside0.mk hs
  clear hA hs
  go_enter Tryd.func18, Tryd.ntmps18
  go_wp2_with fail
  refine HN.out.mono ?_
  rintro e w1 ⟨R, A', cap, cs', rfl, hR, hcs', hA', hle, hb⟩
  have HRW := Aside0.mk (repl_walk R A' cap s w1 HZ.out hR cs' hcs' hA')
  have HB1 := Aside0.mk (below_step HB.out hb)
  have e1 : (w.alloc (.cells #[.string ⟨#[76]⟩, .string ⟨#[82]⟩, .string ⟨#[82]⟩, .string ⟨#[76]⟩] 9)).heap.size = w.heap.size + 1 := by simp
  have HLE := Aside0.mk (show w.heap.size ≤ R by omega)
  clear e1
  clear hR hcs' hA' hle hb
  go_wp2_with fail
  refine HRW.out.mono ?_
  rintro e w2 ⟨rfl, hb2⟩
  have HB2 := Aside0.mk (hb2 w w.heap.size HLE.out HB1.out.size HB1.out)
  clear hb2
  go_wp2_with fail
  go_ret
  exact ⟨rfl, HB2.out⟩
def impl_mirrored.f (a0 : ByteArray) : Option ByteArray := if a0.size ≤ 1000000 then some (swB a0) else none
theorem impl_mirrored.calls (a0 : ByteArray) (r : ByteArray) (w : World) (h : impl_mirrored.f a0 = some r) :
    Calls Tryd.prog 18 #[.string a0] w fun e w' => e = .returned (.string r) ∧ Below w.heap.size w w' := by
  unfold impl_mirrored.f at h
  by_cases hc : a0.size ≤ 1000000
  · rw [if_pos hc] at h
    obtain rfl := Option.some.inj h
    exact mirrored_walk a0 w hc
  · rw [if_neg hc] at h
    cases h

end Go.Proofs.YtlnjfbnabjgffaaDoor.X
