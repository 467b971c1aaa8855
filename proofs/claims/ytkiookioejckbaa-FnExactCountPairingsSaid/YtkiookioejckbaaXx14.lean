-- Written by a program of this work (wip/tools/xprint.py, which drives the kit's print over a whole seat). Not trusted: it is checked when it is built.
import Derived.Test.YtkiookioejckbaaXx0
import Derived.Test.YtkiookioejckbaaXx4
import Derived.Test.YtkiookioejckbaaXx10
namespace Go.Proofs.Ytkiookioejckbaa.X
open Go.RowKit Go.Proofs.YtkiookioejckbaaW.PrintWords Go.Proofs.YtkiookioejckbaaW.PrintLast Go.Proofs.YtkiookioejckbaaW.PrintMore
attribute [local go_sem] max2_int min2_int max_two min_two max_three min_three max_four min_four   -- for this text's walks alone
set_option linter.unusedVariables false
set_option linter.unusedSimpArgs false

/-! ### impl_Chord_60: function 60 (given by hand) -/
section
open Go.Sort Go.Lib
instance : Inhabited S52 := ⟨z52⟩
def encChord (x : S52) : List Value := [.int .i64 x.f0, .int .i64 x.f1]
theorem encChord_len (x : S52) : (encChord x).length = 2 := rfl
theorem encChord_one (x : S52) : ∀ v ∈ encChord x, v.oneCell' = true := by
  intro v hv
  simp [encChord] at hv
  rcases hv with rfl | rfl <;> rfl
theorem zero52 (w : World) : (zeroValue 52).run Try.prog w = .ok (.agg #[.int .i64 0, .int .i64 0]) w := by kernel_rfl
theorem run_clear_chord (w : World) (ty : TypeId) (b o n c : Nat) (hn : 0 < n) (hc : ∀ j, j < n * 2 → (w.cell? ⟨b, o + j, none⟩).isSome = true) (hf : ∀ j, j < n * 2 → w.frozen? ⟨b, o + j, none⟩ = false) :
    (Builtin.clear_ #[25] ty #[.slice (some ⟨b, o, none⟩) n c]).run Try.prog w = .ok (.tuple #[]) (w.setCells b o (List.replicate (n * 2) (.int .i64 0))) := by
  have hzc : (Builtin.zeroCells #[.int .i64 0, .int .i64 0] n).toList = List.replicate (n * 2) (.int .i64 0) := by
    simp [Builtin.zeroCells]
    apply List.ext_getElem
    · simp
    · intro i h1 h2
      simp
      rcases Nat.mod_two_eq_zero_or_one i with h | h <;> simp [h]
  have hst := run_storeCells_cells (P := Try.prog) b o (List.replicate (n * 2) (.int .i64 0)) 0 w (by simpa using hc) (by simpa using hf) (by intro v hv'; rw [List.eq_of_mem_replicate hv']; rfl)
  simp only [Nat.add_zero] at hst
  obtain ⟨m, rfl⟩ : ∃ m, n = m + 1 := ⟨n - 1, by omega⟩
  have hcells : (Value.agg #[.int .i64 0, .int .i64 0]).cells = #[.int .i64 0, .int .i64 0] := rfl
  simp [Builtin.clear_, run_underlying Try.underlying25, zero52, hcells, hzc, hst]
theorem chord_enter {w : World} {base : Nat} {ok : Nat → Prop} {g n cap : Nat} {l : List S52} (h : Kd.R k52 52 w base ok (.slice (some ⟨g, 0, none⟩) n cap) l) :
    HoldsK encChord 2 w g 0 l.toArray := by
  have hn := (Kd.R_reads' h).1
  intro t ht
  have ht' : t < l.length * 2 := by simpa using ht
  obtain ⟨c, hcl, hM, hcc, hff⟩ := Kd.R_elem h z52 ((t / 2 : Nat) : Int) (by omega) (by omega)
  obtain rfl := k52_openM hM
  have hsz : k52.sz = 2 := rfl
  rw [hsz] at hcc hff
  rw [get_flatK _ _ _ t (by simpa using ht')]
  have e1 : (((t / 2 : Nat) : Int)).toNat = t / 2 := by omega
  rw [e1] at hcc hff
  have e2 : l.toArray[t / 2]! = l.getD (t / 2) z52 := by
    rw [getElem!_pos _ _ (by simp; omega), List.getD_eq_getElem?_getD, List.getElem?_eq_getElem (by omega)]
    simp
  rw [e2, Nat.zero_add]
  rcases Nat.mod_two_eq_zero_or_one t with e | e
  · have hc := hcc 0 _ rfl
    have hf := hff 0
    rw [show t / 2 * 2 + 0 = t by omega] at hc hf
    rw [e]
    exact ⟨hc, hf⟩
  · have hc := hcc 1 _ rfl
    have hf := hff 1
    rw [show t / 2 * 2 + 1 = t by omega] at hc hf
    rw [e]
    exact ⟨hc, hf⟩
theorem chord_leave {w : World} {base : Nat} {ok : Nat → Prop} {g m cap : Nat} {cur : Array Value} {l : List S52} (hb : w.heap[g]? = some (.cells cur 52 (0, 0))) (hbase : base ≤ g) (hcur : cur.size = cap * 2) (hmax : cap ≤ maxLen) (hl : l.length = m) (hm : m ≤ cap) (hok : ok g)
    (hH : ∀ t, t < m * 2 → cur[t]? = some (encChord l[t / 2]!)[t % 2]!) :
    Kd.R k52 52 w base ok (.slice (some ⟨g, 0, none⟩) m cap) l := by
  have hinner : (cur.toList.take (m * 2)).length = m * 2 := by
    rw [List.length_take, Array.length_toList]; omega
  refine ⟨fun k hk => ?_, cur.toList.take (m * 2), ?_, ?_⟩
  · simp [Value.ownBlock] at hk
    exact hk ▸ hok
  · show w.ownsRow base 52 2 _ l.length _
    rw [hl]
    exact ⟨hinner, .inr ⟨g, cap, cur, rfl, hbase, hb, hm, hmax, hcur, rfl⟩⟩
  · show Reps _ 2 l _
    refine ⟨by rw [hinner, hl], fun j p hj => ?_⟩
    have hjl : j < l.length := (List.getElem?_eq_some_iff.1 hj).1
    have e : ((cur.toList.take (m * 2)).drop (j * 2)).take 2 = [.int .i64 p.f0, .int .i64 p.f1] := by
      apply List.ext_getElem?
      intro i
      rw [List.getElem?_take, List.getElem?_drop, List.getElem?_take, Array.getElem?_toList]
      by_cases hi : i < 2
      · rw [if_pos hi, if_pos (by omega), hH _ (by omega)]
        have e3 : l[(j * 2 + i) / 2]! = p := by
          rw [show (j * 2 + i) / 2 = j by omega, getElem!_pos l j hjl]
          rw [List.getElem?_eq_getElem hjl] at hj
          exact Option.some.inj hj
        rw [e3, show (j * 2 + i) % 2 = i by omega]
        rcases (show i = 0 ∨ i = 1 by omega) with rfl | rfl <;> rfl
      · rw [if_neg hi, List.getElem?_eq_none (by simp; omega)]
    rw [e]
    exact k52_mkM _ _ _ p
theorem putRowK_block {w : World} {g q : Nat} {d : Array S52} {cur : Array Value} (hb : w.heap[g]? = some (.cells cur 52 (0, 0))) (hs : d.size * 2 ≤ cur.size) :
    ∃ cur', (putRowK encChord 2 (Sort.ahead w q) g 0 d).heap[g]? = some (.cells cur' 52 (0, 0)) ∧ cur'.size = cur.size ∧ ∀ t, t < d.size * 2 → cur'[t]? = some (encChord d[t / 2]!)[t % 2]! := by
  refine ⟨putCells id 0 (flatK encChord 2 d) cur, ?_, by simp [putCells], fun t ht => ?_⟩
  · simp [putRowK, putRow, mapBlock, Sort.ahead, Array.getElem?_modify, hb, onCells]
  · simp only [putCells, Array.getElem?_mapIdx, Array.getElem?_eq_getElem (show t < cur.size by omega), Option.map_some]
    rw [if_pos (by simp; omega), Nat.sub_zero, get_flatK _ _ _ t ht]
    rfl
theorem putRowK_frame (w : World) (g q : Nat) (d : Array S52) : (putRowK encChord 2 (Sort.ahead w q) g 0 d).heap.size = w.heap.size ∧ ∀ k, k ≠ g → (putRowK encChord 2 (Sort.ahead w q) g 0 d).heap[k]? = w.heap[k]? := by
  refine ⟨by simp [putRowK, putRow, mapBlock, Sort.ahead], fun k hk => ?_⟩
  simp [putRowK, putRow, mapBlock, Sort.ahead, Array.getElem?_modify, Ne.symm hk]
/-- Chords' cells, one behind the other. -/
def delNews (l : List S52) : List Value := (List.range (l.length * 2)).map fun t => (encChord l[t / 2]!)[t % 2]!
theorem delNews_len (l : List S52) : (delNews l).length = l.length * 2 := by simp [delNews]
theorem delNews_get (l : List S52) (t : Nat) (h : t < l.length * 2) : (delNews l)[t]? = some (encChord l[t / 2]!)[t % 2]! := by simp [delNews, h]
theorem delNews_get' (l : List S52) (t : Nat) (h : t < l.length * 2) : (delNews l)[t]! = (encChord l[t / 2]!)[t % 2]! := by
  rw [getElem!_def, delNews_get l t h]
theorem delNews_one (l : List S52) : ∀ u ∈ delNews l, u.oneCell' = true := by
  intro u hu
  unfold delNews at hu
  obtain ⟨t, _, rfl⟩ := List.mem_map.1 hu
  rcases Nat.mod_two_eq_zero_or_one t with e | e <;> rw [e] <;> rfl
theorem delNews_zero (n : Nat) : List.replicate (n * 2) (Value.int .i64 0) = delNews (List.replicate n z52) := by
  apply List.ext_getElem?
  intro t
  by_cases h : t < n * 2
  · have e1 : (List.replicate n z52)[t / 2]! = z52 := by
      have hq : t / 2 < (List.replicate n z52).length := by simp; omega
      rw [getElem!_pos (List.replicate n z52) (t / 2) hq, List.getElem_replicate]
    rw [delNews_get _ t (by simpa using h), List.getElem?_replicate, if_pos h, e1]
    rcases Nat.mod_two_eq_zero_or_one t with e | e <;> rw [e] <;> rfl
  · rw [List.getElem?_eq_none (by simpa using h), List.getElem?_eq_none (by rw [delNews_len]; simpa using h)]
theorem set_news (d : List S52) (i : Nat) (m : List S52) (h : i + m.length ≤ d.length) : setMany (flatK encChord 2 d.toArray) (i * 2) (delNews m) = flatK encChord 2 (d.take i ++ m ++ d.drop (i + m.length)).toArray := by
  have hl : (d.take i ++ m ++ d.drop (i + m.length)).length = d.length := by simp; omega
  refine ext_get! (by simp; omega) fun t ht => ?_
  have ht' : t < d.length * 2 := by simpa using ht
  rw [get_setMany _ _ _ t (by simpa using ht'), get_flatK _ _ _ t (by simpa using ht'), get_flatK _ _ _ t (by simp; omega), delNews_len]
  have e1 : ∀ (l : List S52) (q : Nat), l.toArray[q]! = l.getD q z52 := by
    intro l q
    rw [getElem!_def, List.getElem?_toArray, List.getD_eq_getElem?_getD]
    cases l[q]? <;> rfl
  have e2 : ∀ (l : List S52) (q : Nat), l[q]! = l.getD q z52 := by
    intro l q
    rw [getElem!_def, List.getD_eq_getElem?_getD]
    cases l[q]? <;> rfl
  rw [e1, e1]
  by_cases hr : i * 2 ≤ t ∧ t < i * 2 + m.length * 2
  · rw [if_pos hr, delNews_get' m _ (by omega), e2, show (t - i * 2) / 2 = t / 2 - i by omega, show (t - i * 2) % 2 = t % 2 by omega]
    congr 2
    rw [List.getD_eq_getElem?_getD, List.getD_eq_getElem?_getD, List.append_assoc, List.getElem?_append_right (by simp; omega), List.getElem?_append_left (by simp; omega)]
    congr 3
    simp; omega
  · rw [if_neg hr]
    congr 2
    by_cases hlt : t / 2 < i
    · rw [List.getD_eq_getElem?_getD, List.getD_eq_getElem?_getD, List.append_assoc, List.getElem?_append_left (by simp; omega), List.getElem?_take, if_pos hlt]
    · rw [List.getD_eq_getElem?_getD, List.getD_eq_getElem?_getD, List.getElem?_append_right (by simp; omega), List.getElem?_drop]
      congr 2
      simp; omega
theorem news_world (w : World) (q g i : Nat) (d m : List S52) (h : i + m.length ≤ d.length) : (putRowK encChord 2 (Sort.ahead w q) g 0 d.toArray).setCells g (i * 2) (delNews m) = putRowK encChord 2 (Sort.ahead w q) g 0 (d.take i ++ m ++ d.drop (i + m.length)).toArray := by
  have hs := setCells_putRow (Sort.ahead w q) g 0 (delNews m) (i * 2) (flatK encChord 2 d.toArray) (by rw [delNews_len]; simp; omega)
  rw [Nat.zero_add, set_news d i m h] at hs
  exact hs
set_option maxHeartbeats 4000000 in
set_option maxRecDepth 1000000 in
theorem delete_walk (g cap i j : Nat) (l : List S52) (w : World) (hH : HoldsK encChord 2 w g 0 l.toArray) (hcap : l.length ≤ cap) (hm : cap ≤ 9223372036854775807) (hlt : i < j) (hj : j ≤ l.length) :
    Calls Try.prog 60 #[.slice (some ⟨g, 0, none⟩) l.length cap, .int .i64 i, .int .i64 j] w fun e w' => e = .returned (.slice (some ⟨g, 0, none⟩) (i + (l.length - j)) cap) ∧ w' = putRowK encChord 2 (Sort.ahead w 1) g 0 (l.take i ++ l.drop j ++ List.replicate (j - i) z52).toArray := by
  have tS := Try.underlying25
  have mixed : Try.prog.follows Departure.mixedOrders = true := by kernel_rfl
  obtain ⟨i0, hi0, hz1⟩ : ∃ i0, Try.prog.info? 52 = some i0 ∧ i0.size = 2 := by
    have h : (Try.prog.info? 52).map (·.size) = some 2 := by kernel_rfl
    obtain ⟨i0, h1, h2⟩ := Option.map_eq_some_iff.1 h
    exact ⟨i0, h1, h2⟩
  obtain ⟨news, hnews⟩ : ∃ news, news = delNews (l.drop j) := ⟨_, rfl⟩
  have hlen : news.length = (l.length - j) * 2 := by rw [hnews, delNews_len]; simp
  have hcell : ∀ t, t < l.length * 2 → w.cell? ⟨g, t, none⟩ = some (encChord l[t / 2]!)[t % 2]! ∧ w.frozen? ⟨g, t, none⟩ = false := by
    intro t ht
    have h0 := hH t (by simpa using ht)
    rw [get_flatK _ _ _ t (by simpa using ht), Nat.zero_add] at h0
    have e1 : l.toArray[t / 2]! = l[t / 2]! := by rw [getElem!_def, getElem!_def, List.getElem?_toArray]
    rw [e1] at h0
    exact h0
  obtain ⟨A, hA, hsrc⟩ : ∃ A : Addr, (if cap = j then some (⟨g, 0, none⟩ : Addr) else some ⟨g, j * 2, none⟩) = some A ∧ Hid (∀ t u, news[t]? = some u → w.drew.cell? (A.add t) = some u) := by
    by_cases h : cap = j
    · refine ⟨⟨g, 0, none⟩, by simp [h], fun t u hu => ?_⟩
      have h0 : news.length = 0 := by rw [hlen]; omega
      rw [List.length_eq_zero_iff.1 h0] at hu
      simp at hu
    · refine ⟨⟨g, j * 2, none⟩, by simp [h], fun t u hu => ?_⟩
      have ht : t < (l.length - j) * 2 := by
        have := (List.getElem?_eq_some_iff.1 hu).1
        rwa [hlen] at this
      rw [hnews, delNews_get _ t (by simpa using ht)] at hu
      rw [Addr.add_lit]
      have hc := (hcell (j * 2 + t) (by omega)).1
      refine hc.trans ?_
      rw [← hu, show (j * 2 + t) / 2 = j + t / 2 by omega, show (j * 2 + t) % 2 = t % 2 by omega]
      have e1 : (l.drop j)[t / 2]! = l[j + t / 2]! := by rw [getElem!_def, getElem!_def, List.getElem?_drop]
      rw [e1]
  have s1 : Hid (news.length = (l.length - j) * 2) := hlen
  have s2 : Hid (∀ u ∈ news, u.oneCell' = true) := by rw [hnews]; exact delNews_one _
  have s3 : Hid (∀ t, t < news.length → (w.drew.cell? ⟨g, 0 + i * 2 + t, none⟩).isSome = true ∧ w.drew.frozen? ⟨g, 0 + i * 2 + t, none⟩ = false) := by
    intro t ht
    rw [hlen] at ht
    have hc := hcell (0 + i * 2 + t) (by omega)
    exact ⟨by show (w.cell? _).isSome = true; rw [hc.1]; rfl, hc.2⟩
  obtain ⟨W1, hW1⟩ : ∃ W1, W1 = w.drew.setCells g (0 + i * 2) news := ⟨_, rfl⟩
  have hdl : (l.drop j).length = l.length - j := by simp
  have hW1' : W1 = putRowK encChord 2 (Sort.ahead w 1) g 0 (l.take i ++ l.drop j ++ l.drop (i + (l.length - j))).toArray := by
    have h1 := news_world w 1 g i l (l.drop j) (by rw [hdl]; omega)
    rw [putRowK_self encChord 2 (Sort.ahead w 1) g 0 l.toArray (holdsK_ahead encChord 2 w 1 g 0 l.toArray hH), hdl] at h1
    rw [hW1, hnews, Nat.zero_add]
    exact h1
  have hl1 : (l.take i ++ l.drop j ++ l.drop (i + (l.length - j))).length = l.length := by simp; omega
  have hH1 : HoldsK encChord 2 W1 g 0 (l.take i ++ l.drop j ++ l.drop (i + (l.length - j))).toArray := by
    rw [hW1']
    exact holdsK_putRowK encChord 2 _ g 0 l.toArray _ (holdsK_ahead encChord 2 w 1 g 0 l.toArray hH) (by simpa using hl1)
  have hcl : ∀ ty, (Builtin.clear_ #[25] ty #[.slice (some ⟨g, (i + (l.length - j)) * 2, none⟩) (l.length - (i + (l.length - j))) (cap - (i + (l.length - j)))]).run Try.prog W1 = .ok (.tuple #[]) (W1.setCells g ((i + (l.length - j)) * 2) (List.replicate ((l.length - (i + (l.length - j))) * 2) (.int .i64 0))) :=
    fun ty => run_clear_chord W1 ty g _ _ _ (by omega) (fun t ht => by rw [show (i + (l.length - j)) * 2 + t = 0 + ((i + (l.length - j)) * 2 + t) by omega, (hH1 _ (by simp; omega)).1]; rfl) (fun t ht => by rw [show (i + (l.length - j)) * 2 + t = 0 + ((i + (l.length - j)) * 2 + t) by omega]; exact (hH1 _ (by simp; omega)).2)
  have X : Aside (W1 = putRowK encChord 2 (Sort.ahead w 1) g 0 (l.take i ++ l.drop j ++ l.drop (i + (l.length - j))).toArray) := hW1'
  have hW : Hid (W1 = w.drew.setCells g (0 + i * 2) news) := hW1
  have hic : i ≤ cap := by omega
  have hjc : j ≤ cap := by omega
  have hnc : ¬ cap = i + (l.length - j) := by omega
  clear hW1 hW1' hH1 hH hnews hlen hcell
  go_enter Try.func60, Try.ntmps60
  go_wp2_with fail
  go_region_law_o (refine step_append_room rfl (.tmp 22) (.tmp 25) 25 rfl 52 i0 2 tS hi0 hz1 g 0 i cap (by simp [Act.eval, Act.put]) A (l.length - j) (cap - j) news (by simp [Act.eval, Act.put]) s1.out hsrc.out s2.out (by omega) s3.out ?_; rw [← hW.out])
  go_wp2
  go_ret
  refine ⟨rfl, ?_⟩
  rw [X.out, delNews_zero, news_world w 1 g (i + (l.length - j)) _ _ (by simp; omega)]
  congr 2
  have e0 : l.length - (i + (l.length - j)) = j - i := by omega
  have e1 : (l.take i ++ l.drop j ++ l.drop (i + (l.length - j))).take (i + (l.length - j)) = l.take i ++ l.drop j := by
    rw [List.take_append_of_le_length (by simp; omega), List.take_of_length_le (by simp; omega)]
  have e2 : (l.take i ++ l.drop j ++ l.drop (i + (l.length - j))).drop (i + (l.length - j) + (List.replicate (j - i) z52).length) = [] := List.drop_eq_nil_of_le (by simp; omega)
  rw [e0, e1, e2, List.append_nil]
def impl_Chord_60.f (l0 : List S52) (a1 a2 : Int) : Option (List S52) := if 0 ≤ a1 ∧ a1 < a2 ∧ a2 ≤ l0.length ∧ l0.length ≤ 1000000 then some (l0.take a1.toNat ++ l0.drop a2.toNat) else none
set_option maxHeartbeats 4000000 in
theorem impl_Chord_60.calls (P0_ : Nat → Prop) (u9000_ : Value) (l0 : List S52) (a1 a2 : Int) (r : List S52) (w0 w : World) (hB : Below w0.heap.size w0 w) (ho0 : Kd.R k52 52 w w0.heap.size P0_ u9000_ l0) (h : impl_Chord_60.f l0 a1 a2 = some r) :
    Calls Try.prog 60 #[u9000_, .int .i64 a1, .int .i64 a2] w fun e w' => ∃ v0_ : Value, e = .returned v0_ ∧ Kd.R k52 52 w' w0.heap.size (fun k_ => (P0_ k_ ∨ w.heap.size ≤ k_)) v0_ r ∧ Below w0.heap.size w0 w' ∧ Kept w w' (fun k_ => P0_ k_) := by
  unfold impl_Chord_60.f at h
  by_cases hc : 0 ≤ a1 ∧ a1 < a2 ∧ a2 ≤ l0.length ∧ l0.length ≤ 1000000
  · rw [if_pos hc] at h
    obtain rfl := Option.some.inj h
    clear h
    obtain ⟨i, rfl⟩ : ∃ i : Nat, a1 = (i : Int) := ⟨a1.toNat, by omega⟩
    obtain ⟨j, rfl⟩ : ∃ j : Nat, a2 = (j : Int) := ⟨a2.toNat, by omega⟩
    simp only [Int.toNat_natCast]
    obtain ⟨g, cap, rfl, hbase, hlt, cells, hcells⟩ := Kd.R_form ho0 (by omega)
    have hcap := (Kd.R_reads' ho0).2.1
    have hP : P0_ g := ho0.1 g rfl
    have hH := chord_enter ho0
    obtain ⟨_, _, hown, _⟩ := ho0
    obtain ⟨cur, hcur, hsize, hmax⟩ : ∃ cur : Array Value, w.heap[g]? = some (.cells cur 52 (0, 0)) ∧ cur.size = cap * 2 ∧ cap ≤ maxLen := by
      rcases hown.2 with ⟨e0, _⟩ | ⟨g', cap', cur, e0, hb, hg, hn, hm, hs, ht⟩
      · cases e0
      · injection e0 with e1 _ e3
        injection e1 with e1
        injection e1 with e1
        subst e1; subst e3
        exact ⟨cur, hg, hs, hm⟩
    refine (delete_walk g cap i j l0 w hH hcap (by unfold maxLen at hmax; omega) (by omega) (by omega)).mono ?_
    rintro e w' ⟨rfl, rfl⟩
    have hl2 : (l0.take i ++ l0.drop j ++ List.replicate (j - i) z52).length = l0.length := by simp; omega
    obtain ⟨f1a, f1b⟩ := putRowK_frame w g 1 (l0.take i ++ l0.drop j ++ List.replicate (j - i) z52).toArray
    obtain ⟨c1, k1a, k1b, k1c⟩ := putRowK_block (q := 1) (d := (l0.take i ++ l0.drop j ++ List.replicate (j - i) z52).toArray) hcur (by simp; omega)
    refine ⟨_, rfl, chord_leave k1a hbase (by omega) hmax (by simp; omega) (by omega) (.inl hP) (fun t ht => ?_), ⟨hB.os, hB.tape, hB.output, ?_, ?_⟩, ?_, ?_⟩
    · rw [k1c t (by simp; omega)]
      have e : (l0.take i ++ l0.drop j ++ List.replicate (j - i) z52).toArray[t / 2]! = (l0.take i ++ l0.drop j)[t / 2]! := by
        rw [getElem!_def, getElem!_def, List.getElem?_toArray, List.getElem?_append_left (by simp; omega)]
      rw [e]
    · rw [f1a]; exact hB.size
    · intro k hk
      rw [f1b k (by omega)]
      exact hB.block k hk
    · rw [f1a]; exact Nat.le_refl _
    · intro q hq hnP
      exact f1b q (fun e => hnP (e ▸ hP))
  · rw [if_neg hc] at h
    cases h
end

/-! ### impl_Chord_61: function 61 (given by hand) -/
def impl_Chord_61.f (l0 : List S52) : Option (List S52) := if l0.length < 8796093022208 then some l0 else none
set_option maxHeartbeats 8000000 in
set_option maxRecDepth 100000 in
theorem impl_Chord_61.calls (A0 : Option Addr) (c0 : Nat) (l0 : List S52) (r : List S52) (w : World) (hr0 : Kd.C k52 w A0 l0.length l0) (hc0 : l0.length ≤ c0) (h : impl_Chord_61.f l0 = some r) :
    Calls Try.prog 61 #[.slice A0 l0.length c0] w fun e w' => ∃ v0_ : Value, e = .returned (v0_) ∧ Kd.R k52 52 w' w.heap.size (fun _ => True) v0_ r ∧ Below w.heap.size w w' := by
  unfold impl_Chord_61.f at h
  by_cases hl : l0.length < 8796093022208
  · rw [if_pos hl] at h
    obtain rfl := Option.some.inj h
    clear h
    have qT : ∀ (w : World) (a : Option Addr) (n c : Nat), (binOp .eql 25 (.slice a n c) (.slice none 0 0)).run Try.prog w = .ok (.bool a.isNone) w := fun w a n c => Lib.run_eql_slice_nil w 25 52 a n c 0 0 Try.underlying25
    cases A0 with
    | none =>
      have e0 : l0 = [] := by
        rcases Nat.eq_zero_or_pos l0.length with h0 | h0
        · exact List.length_eq_zero_iff.1 h0
        · obtain ⟨ad, h1, _⟩ := hr0.2.2 h0
          cases h1
      subst e0
      clear hr0
      clear hc0 hl
      go_enter Try.func61, Try.ntmps61
      go_wp2_with fail
      go_ret
      exact ⟨_, rfl, Kd.R_nil _ _ _ _ _, Below.refl _ _⟩
    | some ad =>
      have HR0 := Aside0.mk hr0
      have HC0 := Aside0.mk hc0
      have HL := Aside0.mk hl
      clear hr0 hc0 hl
      have HB := Aside0.mk (Below.refl w.heap.size w)
      go_enter Try.func61, Try.ntmps61
      go_wp2_with (first | ((with_reducible refine gate_dst (N := 5) rfl ?_); refine Kd.R_lit k52 _ 52 ?hg (N := 5) ?hd (xs := ([] : List S52)) (inner := []) (ok := fun _ => True) (okp := fun _ => True) ?hr ?hp (fun _ hk => hk) trivial (Below.refl _ _) (Nat.le_refl _) (by simp) ?_; (case hd => rfl); (case hg => rfl); (case hr => first | (go_simp; done) | (go_simp; rfl)); (case hp => exact (Reps.none _ _)); intro v468 w3 ho4 hb hg_ hnew_; clear hg_ hnew_; have n0_ := Aside0.mk (Kd.R_lower ho4 (below_size (by repeat (first | (with_reducible first | exact HB.out | apply below_alloc | apply pw_below_drewN | apply below_drew1) | exact HB.out)))); have n1_ := Aside0.mk (below_step (by repeat (first | (with_reducible first | exact HB.out | apply below_alloc | apply pw_below_drewN | apply below_drew1) | exact HB.out)) hb); clear HB; have HO469 := n0_; have HB := n1_; clear n0_ n1_; clear hb ho4) | ((with_reducible refine gate_builtin (b := .append) (xs := #[.tmp 5, .tmp 6]) rfl ?_); at_builtin; refine Kd.R_append_rows k52 (w0 := w) w.heap.size rfl (.tmp 5) (.tmp 6) 25 52 (.agg #[(.int .i64 0), (.int .i64 0)]) 16 rfl Try.underlying25 info52 rfl (by decide) (by omega) v468 ([] : List S52) l0 _ _ _ (fun _ => True) (fun _ => False) rfl rfl ?aO ?aR (fun _ _ h => h) (fun _ h => h.elim) ?aF ?aB ?aS ?aL ?_; (case aR => repeat (first | exact (Kd.C_below HR0.out HB.out) | (with_reducible refine Kd.C_alloc ?_ _) | (with_reducible refine Kd.C_drewN ?_ _) | (with_reducible refine Kd.C_drew ?_))); (case aB => exact (by repeat (first | (with_reducible first | exact HB.out | apply below_alloc | apply pw_below_drewN | apply below_drew1) | exact HB.out))); (case aF => exact (fun _ _ => trivial)); (case aO => exact (by (with_reducible repeat (first | apply Kd.R_alloc | apply Kd.R_drewN | apply Kd.R_drew)); exact HO469.out)); (case aS => exact (below_size (by repeat (first | (with_reducible first | exact HB.out | apply below_alloc | apply pw_below_drewN | apply below_drew1) | exact HB.out)))); (case aL => have := HL.out; simp; omega); intro v471 w5 ho hb hg hat; have n0_ := Aside0.mk (hb); have n1_ := Aside0.mk (ho); clear HB; clear HO469; have HB := n0_; have HO472 := n1_; clear n0_ n1_; clear ho hb hg hat))
      go_ret
      exact ⟨_, rfl, by (with_reducible repeat (first | apply Kd.R_alloc | apply Kd.R_drewN | apply Kd.R_drew)); exact HO472.out, (by repeat (first | (with_reducible first | exact HB.out | apply below_alloc | apply pw_below_drewN | apply below_drew1) | exact HB.out))⟩
  · rw [if_neg hl] at h
    cases h

/-! ### impl_DropChord: function 25 -/
def impl_DropChord.j0 : Nat → List (S52) → Int → Bool → Option ((List (S52)) × Bool)
  | 0, _, _, _ => none
  | k + 1, x1, x2, x19 => if x19 = true then (some (([] : List (S52)), false)) else ((impl_Chord_61.f x1).bind fun t249 => ((impl_Chord_60.f t249 x2 (wrap64 (x2 + 1))).bind fun t252 => (some (t252, true))))
def impl_DropChord.f (k : Nat) (a0 : Int) (l1 : List (S52)) (a2 : Int) : Option ((List (S52)) × Bool) := (impl_isSet.f k a0 l1).bind fun t247 => (if t247 = true then ((impl_within.f a2 0 (wrap64 ((l1.length : Int) - 1))).bind fun t248 => (impl_DropChord.j0 k l1 a2 (!t248))) else (impl_DropChord.j0 k l1 a2 true))
theorem impl_DropChord.mono_l : ∀ k, (∀ y0 y1 y2, LeO (impl_DropChord.j0 k y0 y1 y2) (impl_DropChord.j0 (k + 1) y0 y1 y2))
  | 0 => fun _ _ _ r h => by simp [impl_DropChord.j0] at h
  | k + 1 => by
    have ih0 := impl_DropChord.mono_l k
    · intro y0 y1 y2
      unfold impl_DropChord.j0
      repeat' first
      | (with_reducible exact ih0 _ _ _)
      | (with_reducible exact impl_isSet.mono _ _ _)
      | (with_reducible exact LeO.refl _)
      | (with_reducible exact LeO.none _)
      | (with_reducible refine LeO.ite ?_ ?_)
      | (with_reducible refine LeO.bind ?_ (fun _ => ?_))
      | exact ih0 _ _ _
      | exact impl_isSet.mono _ _ _
      | exact LeO.none _
      | refine LeO.ite ?_ ?_
      | refine LeO.bind ?_ (fun _ => ?_)
theorem impl_DropChord.mono : ∀ a0 a1 a2 k, LeO (impl_DropChord.f k a0 a1 a2) (impl_DropChord.f (k + 1) a0 a1 a2) := by
  intro a0 a1 a2 k
  have ih0 := impl_DropChord.mono_l k
  unfold impl_DropChord.f
  repeat' first
      | (with_reducible exact ih0 _ _ _)
      | (with_reducible exact impl_isSet.mono _ _ _)
      | (with_reducible exact LeO.refl _)
      | (with_reducible exact LeO.none _)
      | (with_reducible refine LeO.ite ?_ ?_)
      | (with_reducible refine LeO.bind ?_ (fun _ => ?_))
      | exact ih0 _ _ _
      | exact impl_isSet.mono _ _ _
      | exact LeO.none _
      | refine LeO.ite ?_ ?_
      | refine LeO.bind ?_ (fun _ => ?_)
set_option maxHeartbeats 8000000 in
set_option maxRecDepth 100000 in
theorem impl_DropChord.calls (k : Nat) (a0 : Int) (A1 : Option Addr) (c1 : Nat) (l1 : List (S52)) (a2 : Int) (r1 : List (S52)) (r2 : Bool) (w : World) (hr1 : Kd.C k52 w A1 l1.length l1) (hc1 : l1.length ≤ c1) (h : impl_DropChord.f k a0 l1 a2 = some (r1, r2)) :
    Calls Try.prog 25 #[.int .i64 a0, .slice A1 l1.length c1, .int .i64 a2] w fun e w' => ∃ v0_ : Value, e = .returned (.tuple #[v0_, .bool r2]) ∧ Kd.R k52 52 w' w.heap.size (fun _ => True) v0_ r1 ∧ Below w.heap.size w w' := by
  have HR1 := Aside0.mk hr1
  have HC1 := Aside0.mk hc1
  clear hr1 hc1
  have HB := Aside0.mk (Below.refl w.heap.size w)
  have H : ((impl_isSet.f k a0 l1).bind fun t247 => (if t247 = true then ((impl_within.f a2 0 (wrap64 ((l1.length : Int) - 1))).bind fun t248 => (impl_DropChord.j0 k l1 a2 (!t248))) else (impl_DropChord.j0 k l1 a2 true))) = some (r1, r2) := h
  clear h
  have HC4 := Aside0.mk H
  clear H
  go_enter Try.func25, Try.ntmps25
  go_upto_region 1 with (fail)
  go_cut [19] (fun v19 wc => ∃ (kq : Nat) (x19_3 : Bool), v19 = .bool x19_3 ∧ Aside0 (impl_DropChord.j0 kq l1 a2 x19_3 = some (r1, r2)) ∧ Aside0 (kq ≤ k) ∧ Aside0 (Below w.heap.size w wc))
  case first =>
    have H := HC4.out
    clear HC4
    replace H := Option.bind_eq_some_iff.mp H
    obtain ⟨t247, A50, H⟩ := H
    replace H : (if t247 = true then ((impl_within.f a2 0 (wrap64 ((l1.length : Int) - 1))).bind fun t248 => (impl_DropChord.j0 k l1 a2 (!t248))) else (impl_DropChord.j0 k l1 a2 true)) = some (r1, r2) := H
    have A5 := Aside0.mk A50
    clear A50
    by_cases c6 : t247 = true
    · subst c6
      have H1 : ((impl_within.f a2 0 (wrap64 ((l1.length : Int) - 1))).bind fun t248 => (impl_DropChord.j0 k l1 a2 (!t248))) = some (r1, r2) := by rw [if_pos rfl] at H; exact H
      clear H
      have H := H1
      clear H1
      replace H := Option.bind_eq_some_iff.mp H
      obtain ⟨t248, A70, H⟩ := H
      replace H : (impl_DropChord.j0 k l1 a2 (!t248)) = some (r1, r2) := H
      have A7 := Aside0.mk A70
      clear A70
      have H' := Aside0.mk H
      clear H
      go_wp2_with (first | ((with_reducible refine gate_callee (f := 57) rfl ?_); refine goesL_ (some 10) rfl rfl Try.func57 (by kernel_rfl) rfl #[.int .i64 a0, .slice A1 l1.length c1] rfl (by (try simp only [List.map_toArray, List.map_cons, List.map_nil]); first | done | rfl | (simp only [List.length_drop, List.length_take]; rfl)) ?_; (with_reducible refine (impl_isSet.calls k a0 _ _ l1 true _ ?side1 ?side2 A5.out).mono ?_); (case side1 => repeat (first | exact (Kd.C_below HR1.out HB.out) | (with_reducible refine Kd.C_alloc ?_ _) | (with_reducible refine Kd.C_drewN ?_ _) | (with_reducible refine Kd.C_drew ?_))); (case side2 => exact HC1.out); rintro e w8 ⟨rfl, hb⟩; refine ⟨_, rfl, ?_⟩; have n0_ := Aside0.mk (below_step (by repeat (first | (with_reducible first | exact HB.out | apply below_alloc | apply pw_below_drewN | apply below_drew1) | exact HB.out)) hb); clear HB; have HB := n0_; clear n0_; (try clear hb); (try clear hb2); (try clear hk); (try clear hi)) | (go_at_call 52; (with_reducible refine (impl_within.calls a2 0 (wrap64 ((l1.length : Int) - 1)) t248 _ A7.out).mono ?_); rintro e w' ⟨rfl, ⟨nd, rfl⟩⟩))
      go_meet
      case rel => exact ⟨_, (!t248), (by first | rfl | (simp; done) | (simp [*]; done)), H', ⟨by first | omega | exact Nat.le_refl _⟩, ⟨by repeat (first | (with_reducible first | exact HB.out | apply below_alloc | apply pw_below_drewN | apply below_drew1) | exact HB.out)⟩⟩
    · replace c6 := Bool.eq_false_iff.mpr c6
      subst c6
      have H1 : (impl_DropChord.j0 k l1 a2 true) = some (r1, r2) := by rw [if_neg (show ¬ (false = true) by decide)] at H; exact H
      clear H
      have H := H1
      clear H1
      have H' := Aside0.mk H
      clear H
      go_wp2_with (first | ((with_reducible refine gate_callee (f := 57) rfl ?_); refine goesL_ (some 10) rfl rfl Try.func57 (by kernel_rfl) rfl #[.int .i64 a0, .slice A1 l1.length c1] rfl (by (try simp only [List.map_toArray, List.map_cons, List.map_nil]); first | done | rfl | (simp only [List.length_drop, List.length_take]; rfl)) ?_; (with_reducible refine (impl_isSet.calls k a0 _ _ l1 false _ ?side1 ?side2 A5.out).mono ?_); (case side1 => repeat (first | exact (Kd.C_below HR1.out HB.out) | (with_reducible refine Kd.C_alloc ?_ _) | (with_reducible refine Kd.C_drewN ?_ _) | (with_reducible refine Kd.C_drew ?_))); (case side2 => exact HC1.out); rintro e w9 ⟨rfl, hb⟩; refine ⟨_, rfl, ?_⟩; have n0_ := Aside0.mk (below_step (by repeat (first | (with_reducible first | exact HB.out | apply below_alloc | apply pw_below_drewN | apply below_drew1) | exact HB.out)) hb); clear HB; have HB := n0_; clear n0_; (try clear hb); (try clear hb2); (try clear hk); (try clear hi)))
      go_meet
      case rel => exact ⟨_, (true), (by first | rfl | (simp; done) | (simp [*]; done)), H', ⟨by first | omega | exact Nat.le_refl _⟩, ⟨by repeat (first | (with_reducible first | exact HB.out | apply below_alloc | apply pw_below_drewN | apply below_drew1) | exact HB.out)⟩⟩
  case rest =>
    clear HC4
    try clear c1
    try clear c2
    try clear p2
    try clear c5
    try clear c6
    try clear p6
    obtain ⟨kq, x19_3, rfl, HA, HJ3, HB⟩ := hcut
    cases kq with
    | zero => exact absurd HA.out (by simp [impl_DropChord.j0])
    | succ kj3 =>
      have H := HA.out
      clear HA
      simp only [impl_DropChord.j0] at H
      by_cases c10 : x19_3 = true
      · subst c10
        have H1 : (some (([] : List (S52)), false)) = some (r1, r2) := by rw [if_pos rfl] at H; exact H
        clear H
        have H := H1
        clear H1
        simp only [Option.some.injEq, Prod.mk.injEq] at H
        obtain ⟨rfl, rfl⟩ := H
        go_wp2
        go_ret2
        exact ⟨_, by first | rfl | (simp [errW_none, errW_some] <;> rfl) | (simp [*, errW_none, errW_some] <;> rfl), by first | exact Kd.R_nil _ _ _ _ _ | exact Kd.N_nil _ _ _ _ _ | exact Kd.V_nil _ _ _ _ _ | exact Kd.Q_nil _ _ _ _ _ | exact Kd.S_nil _ _ _ _ _, by repeat (first | (with_reducible first | exact HB.out | apply below_alloc | apply pw_below_drewN | apply below_drew1) | exact HB.out)⟩
      · replace c10 := Bool.eq_false_iff.mpr c10
        subst c10
        have H1 : ((impl_Chord_61.f l1).bind fun t249 => ((impl_Chord_60.f t249 a2 (wrap64 (a2 + 1))).bind fun t252 => (some (t252, true)))) = some (r1, r2) := by rw [if_neg (show ¬ (false = true) by decide)] at H; exact H
        clear H
        have H := H1
        clear H1
        replace H := Option.bind_eq_some_iff.mp H
        obtain ⟨t249, A110, H⟩ := H
        replace H : ((impl_Chord_60.f t249 a2 (wrap64 (a2 + 1))).bind fun t252 => (some (t252, true))) = some (r1, r2) := H
        have A11 := Aside0.mk A110
        clear A110
        replace H := Option.bind_eq_some_iff.mp H
        obtain ⟨t252, A120, H⟩ := H
        replace H : (some (t252, true)) = some (r1, r2) := H
        have A12 := Aside0.mk A120
        clear A120
        simp only [Option.some.injEq, Prod.mk.injEq] at H
        obtain ⟨rfl, rfl⟩ := H
        go_wp2_with (first | ((with_reducible refine gate_callee (f := 61) rfl ?_); refine goesL_ (some 21) rfl rfl Try.func61 (by kernel_rfl) rfl #[.slice A1 l1.length c1] rfl (by (try simp only [List.map_toArray, List.map_cons, List.map_nil]); first | done | rfl | (simp only [List.length_drop, List.length_take]; rfl)) ?_; (with_reducible refine (impl_Chord_61.calls _ _ l1 t249 _ ?side1 ?side2 A11.out).mono ?_); (case side1 => repeat (first | exact (Kd.C_below HR1.out HB.out) | (with_reducible refine Kd.C_alloc ?_ _) | (with_reducible refine Kd.C_drewN ?_ _) | (with_reducible refine Kd.C_drew ?_))); (case side2 => exact HC1.out); rintro e w13 ⟨v250, rfl, ho0, hb⟩; refine ⟨_, rfl, ?_⟩; have n0_ := Aside0.mk (Kd.R_lower ho0 (below_size (by repeat (first | (with_reducible first | exact HB.out | apply below_alloc | apply pw_below_drewN | apply below_drew1) | exact HB.out)))); have n1_ := Aside0.mk (below_step (by repeat (first | (with_reducible first | exact HB.out | apply below_alloc | apply pw_below_drewN | apply below_drew1) | exact HB.out)) hb); clear HB; have HO251 := n0_; have HB := n1_; clear n0_ n1_; (try clear hb); (try clear hb2); (try clear hk); (try clear hi); (try clear ho0); obtain ⟨Ao14, co14, eo14⟩ := Kd.R_slice HO251.out; subst eo14) | ((with_reducible refine gate_callee (f := 60) rfl ?_); refine goesL_ (some 25) rfl rfl Try.func60 (by kernel_rfl) rfl #[.slice Ao14 t249.length co14, .int .i64 a2, .int .i64 (wrap64 (a2 + 1))] rfl (by (try simp only [List.map_toArray, List.map_cons, List.map_nil]); first | done | rfl | (simp only [List.length_drop, List.length_take]; rfl)) ?_; (with_reducible refine (impl_Chord_60.calls (fun k_ => some k_ = (.slice Ao14 t249.length co14 : Value).ownBlock) (.slice Ao14 t249.length co14) t249 a2 (wrap64 (a2 + 1)) t252 w _ ?side1 ?side2 A12.out).mono ?_); (case side1 => repeat (first | (with_reducible first | exact HB.out | apply below_alloc | apply pw_below_drewN | apply below_drew1) | exact HB.out)); (case side2 => exact Kd.R_tight rfl HO251.out); rintro e w15 ⟨v253, rfl, ho0, hb, hkp⟩; refine ⟨_, rfl, ?_⟩; have n0_ := Aside0.mk (Kd.R_mono (ok' := fun k_ => True) ho0 (fun k_ hk_ => trivial)); have n1_ := Aside0.mk (hb); clear HB; clear HO251; have HO254 := n0_; have HB := n1_; clear n0_ n1_; (try clear hb); (try clear hkp); (try clear ho0)))
        go_ret2
        exact ⟨_, by first | rfl | (simp [errW_none, errW_some] <;> rfl) | (simp [*, errW_none, errW_some] <;> rfl), by (with_reducible repeat (first | apply Kd.R_alloc | apply Kd.R_drewN | apply Kd.R_drew)); exact HO254.out, by repeat (first | (with_reducible first | exact HB.out | apply below_alloc | apply pw_below_drewN | apply below_drew1) | exact HB.out)⟩

end Go.Proofs.Ytkiookioejckbaa.X
