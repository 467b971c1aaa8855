-- Written by a program of this work (wip/tools/xadd.py). Not trusted: it is checked when it is built.
import Derived.Test.YtlnjfbnabjgffaaDoorXx2
import Derived.Test.YtlnjfbnabjgffaaDoorXx8
import Derived.Test.YtlnjfbnabjgffaaDoorXx10
import Derived.Test.YtlnjfbnabjgffaaDoorXx11
import Derived.Test.YtlnjfbnabjgffaaDoorXx12
import Derived.Test.YtlnjfbnabjgffaaDoorXx13
import Derived.Shelf.SlSortCmp.NoneTotal
import Derived.Test.YtlnjfbnabjgffaaDoorShelfC
namespace Go.Proofs.YtlnjfbnabjgffaaDoor.X
open Go.RowKit Go.Proofs.YtlnjfbnabjgffaaDoorW.PrintWords Go.Proofs.YtlnjfbnabjgffaaDoorW.PrintLast Go.Proofs.YtlnjfbnabjgffaaDoorW.PrintMore
attribute [local go_sem] max2_int min2_int max_two min_two max_three min_three max_four min_four   -- for this text's walks alone
set_option linter.unusedVariables false
set_option linter.unusedSimpArgs false

/-! ### impl_CrossedPoints: function 11 (given by hand) -/
/-- Two points in their order. -/
def cmp2 (a b : List Int) : Int := if rd a 0 < rd b 0 then -1 else if rd b 0 < rd a 0 then 1 else if rd a 1 < rd b 1 then -1 else if rd b 1 < rd a 1 then 1 else 0
theorem len2 {α : Type} {l : List α} (h : l.length = 2) : ∃ a b, l = [a, b] := by
  match l, h with
  | [a, b], _ => exact ⟨a, b, rfl⟩
theorem cmpI (a b : Int) : cmp_Compare_int.f a b = some (if a < b then -1 else if b < a then 1 else 0) := by
  unfold cmp_Compare_int.f cmp_isNaN_int.f
  simp only [bne_self_eq_false, Option.bind_some]
  rw [if_neg (by decide), if_neg (by decide)]
  by_cases h : a < b
  · rw [if_pos h, if_pos h]
  · rw [if_neg h, if_neg h]
    by_cases h2 : b < a
    · rw [if_pos (show a > b from h2), if_pos h2]
    · rw [if_neg (show ¬ a > b from h2), if_neg h2]
theorem compare2 (a b : List Int) (ha : a.length = 2) (hb : b.length = 2) : slices_Compare_int_int.f 4 a b = some (cmp2 a b) := by
  obtain ⟨x, y, rfl⟩ := len2 ha
  obtain ⟨p, q, rfl⟩ := len2 hb
  have w1 : wrap64 (0 + 1) = 1 := by unfold wrap64; omega
  have w2 : wrap64 (1 + 1) = 2 := by unfold wrap64; omega
  have r0 : ∀ u v : Int, rd [u, v] 0 = u := fun _ _ => rfl
  have r1 : ∀ u v : Int, rd [u, v] 1 = v := fun _ _ => rfl
  unfold slices_Compare_int_int.f cmp2
  simp only [slices_Compare_int_int.l0, List.length_cons, List.length_nil, cmpI, w1, w2, Option.bind_some, r0, r1]
  by_cases h1 : x < p
  · simp [h1]
  · by_cases h2 : p < x
    · simp [h1, h2]
    · by_cases h3 : y < q
      · simp [h1, h2, h3]
      · by_cases h4 : q < y
        · simp [h1, h2, h3, h4]
        · simp [h1, h2, h3, h4]
def lt2 (a b : List Int) : Bool := decide (rd a 0 < rd b 0 ∨ (rd a 0 = rd b 0 ∧ rd a 1 < rd b 1))
theorem cmp2_lt (a b : List Int) : decide (cmp2 a b < 0) = lt2 a b := by
  unfold cmp2 lt2
  refine decide_eq_decide.2 ?_
  repeat' split
  all_goals omega
open Go.Sort Go.Lib Go.Proofs in
theorem swo2 {n : Nat} (ls : Fin n → List Int) : SWO (ltOf fun x y => cmp2 (ls x) (ls y)) where
  irrefl x := by show decide (cmp2 (ls x) (ls x) < 0) = false; rw [cmp2_lt]; simp [lt2]
  trans x y z h1 h2 := by
    have h1 : decide (cmp2 (ls x) (ls y) < 0) = true := h1
    have h2 : decide (cmp2 (ls y) (ls z) < 0) = true := h2
    show decide (cmp2 (ls x) (ls z) < 0) = true
    rw [cmp2_lt] at *; simp [lt2] at *; omega
  ntrans x y z h1 h2 := by
    have h1 : decide (cmp2 (ls x) (ls y) < 0) = false := h1
    have h2 : decide (cmp2 (ls y) (ls z) < 0) = false := h2
    show decide (cmp2 (ls x) (ls z) < 0) = false
    rw [cmp2_lt] at *; simp [lt2] at *; omega
theorem add_block (ad : Addr) (k : Nat) : (ad.add k).block = ad.block := by
  unfold Addr.add
  first | rfl | (split <;> rfl)
theorem C_move {w w1 : World} {A : Option Addr} {n : Nat} {xs : List Int} (h : Kd.C (Kd.int .i64) w A n xs) (hm : ∀ ad, A = some ad → w1.heap[ad.block]? = w.heap[ad.block]?) : Kd.C (Kd.int .i64) w1 A n xs := by
  obtain ⟨h1, h2, h3⟩ := h
  refine ⟨h1, h2, fun hn => ?_⟩
  obtain ⟨ad, hA, hc⟩ := h3 hn
  refine ⟨ad, hA, fun j p hj => ?_⟩
  obtain ⟨c, e1, e2, e3⟩ := hc j p hj
  exact ⟨c, e1, e2, fun i u hi => by rw [← e3 i u hi]; exact World.cell?_of_block (by rw [add_block]; exact hm ad hA)⟩
open Go.Sort Go.Lib Go.Proofs in
set_option maxHeartbeats 1000000 in
set_option maxRecDepth 100000 in
theorem sort_walk (g cap n : Nat) (hn : 0 < n) (cur : Array Value) (vs : Fin n → Value) (As : Fin n → Option Addr) (cs : Fin n → Nat) (ls : Fin n → List Int) (w : World)
    (hg : w.heap[g]? = some (.cells cur 36 (0, 0))) (hcur : ∀ i : Fin n, cur[i.val]? = some (vs i)) (hv : ∀ i, vs i = .slice (As i) (ls i).length (cs i)) (hc : ∀ i, (ls i).length ≤ cs i) (hl : ∀ i, (ls i).length = 2)
    (hC : ∀ i, Kd.C (Kd.int .i64) w (As i) (ls i).length (ls i)) (hA : ∀ i ad, As i = some ad → ad.block ≠ g ∧ ad.block < w.heap.size) (hsz : n ≤ 1000000) :
    Calls Tryd.prog 24 #[.slice (some ⟨g, 0, none⟩) n cap, .func (.func 25) #[] #[]] w fun e w' => e = .returned (.tuple #[]) ∧ ∃ (p : List (Fin n)) (cur' : Array Value), p.Perm (List.finRange n) ∧ (p.map ls).Pairwise (fun a b => lt2 b a = false) ∧
      w'.heap[g]? = some (.cells cur' 36 (0, 0)) ∧ cur'.size = cur.size ∧ (∀ j, j < n → cur'[j]? = (p[j]?).map vs) ∧ w.grownBy w' (some g) := by
  haveI : Inhabited (Fin n) := ⟨⟨0, hn⟩⟩
  obtain ⟨d, hd⟩ : ∃ d : Array (Fin n), d = (List.finRange n).toArray := ⟨_, rfl⟩
  have hds : d.size = n := by rw [hd]; simp
  have hdg : ∀ j, (h : j < n) → d[j]! = ⟨j, h⟩ := fun j h => by
    rw [getElem!_pos d j (by omega)]
    simp [hd]
  have hgl : g < w.heap.size := blk_lt hg
  have eg : ∀ args w, (callFunc 25 args).run Tryd.prog w = .ok (.enter 25 args) w := enters_of Tryd.func25 (by kernel_rfl) rfl
  have hother : ∀ (m : Nat) (os : Array Obj) (dk : Array (Fin n)) (k : Nat), k < w.heap.size → k ≠ g → (sortWorld vs w g 0 m dk os).heap[k]? = w.heap[k]? := fun m os dk k hk hne => by
    unfold sortWorld grow
    show ((putRow vs (Sort.ahead w m) g 0 dk).heap ++ os)[k]? = _
    have e1 : (putRow vs (Sort.ahead w m) g 0 dk).heap.size = w.heap.size := by simp [putRow, mapBlock, Sort.ahead]
    rw [Array.getElem?_append_left (by omega)]
    simp [putRow, mapBlock, Sort.ahead, Array.getElem?_modify, Ne.symm hne]
  have hcmp : CmpLays1 Tryd.prog 25 #[] vs (fun x y => cmp2 (ls x) (ls y)) g 0 d.size w := by
    intro m os dk hdk x y
    have hx := C_move (w1 := sortWorld vs w g 0 m dk os) (hC x) (fun ad e => hother m os dk _ (hA x ad e).2 (hA x ad e).1)
    have hy := C_move (w1 := sortWorld vs w g 0 m dk os) (hC y) (fun ad e => hother m os dk _ (hA y ad e).2 (hA y ad e).1)
    have h := slices_Compare_int_int.calls 4 (As x) (cs x) (ls x) (As y) (cs y) (ls y) (cmp2 (ls x) (ls y)) _ hx (hc x) hy (hc y) (compare2 _ _ (hl x) (hl y))
    rw [← hv x, ← hv y] at h
    refine Calls.mono h ?_
    rintro e w' ⟨he, ⟨q, hq⟩⟩
    exact ⟨he, q, #[], by rw [hq, grow_empty]⟩
  have hH : Holds vs w g 0 d := fun j hj => by
    have hj' : j < n := by omega
    rw [hdg j hj', Nat.zero_add]
    exact ⟨(blk_cell hg j).trans (hcur ⟨j, hj'⟩), blk_frozen hg j⟩
  have h := Any.slices_SortFunc Tryd.sortRows vs (fun i => by rw [hv i]; rfl) (fun x y => cmp2 (ls x) (ls y)) (swo2 ls) 25 #[] g 0 cap d w eg hcmp hH hgl (by omega)
  rw [hds] at h
  refine Calls.mono h ?_
  rintro e w' ⟨he, d', m, os, ⟨hp1, hp2, hp3⟩, hs, rfl⟩
  have hd's : d'.size = n := by omega
  have hex : ∀ a : Array (Fin n), a.size = n → a.extract 0 n = a := fun a ha => by
    apply Array.ext_getElem?
    intro i
    rw [Array.getElem?_extract]
    by_cases hi : i < n
    · simp [ha, hi]
    · rw [Array.getElem?_eq_none (show a.size ≤ i by omega)]; simp; omega
  rw [hex d' hd's, hex d hds] at hp3
  have hgg : (sortWorld vs w g 0 m d' os).heap[g]? = some (.cells (putCells vs 0 d' cur) 36 (0, 0)) := by
    unfold sortWorld grow
    show ((putRow vs (Sort.ahead w m) g 0 d').heap ++ os)[g]? = _
    have e1 : (putRow vs (Sort.ahead w m) g 0 d').heap.size = w.heap.size := by simp [putRow, mapBlock, Sort.ahead]
    rw [Array.getElem?_append_left (by omega)]
    simp [putRow, mapBlock, Sort.ahead, Array.getElem?_modify, hg, onCells]
  have hcz : n ≤ cur.size := by
    have := (Array.getElem?_eq_some_iff.1 (hcur ⟨n - 1, by omega⟩)).1
    simp at this
    omega
  refine ⟨he, d'.toList, putCells vs 0 d' cur, by rw [hd] at hp3; simpa using hp3, ?_, hgg, by simp [putCells], fun j hj => ?_, ⟨rfl, rfl, rfl, ?_, fun k hk hne => hother m os d' k hk (fun e => hne (by rw [e]))⟩⟩
  · rw [List.pairwise_iff_getElem]
    intro i j hi hj hij
    have hj' : j < n := by simpa [hd's] using hj
    have h1 := hs i j (Nat.zero_le _) hij hj'
    have h2 : decide (cmp2 (ls d'[j]!) (ls d'[i]!) < 0) = false := h1
    rw [cmp2_lt] at h2
    rw [List.getElem_map, List.getElem_map]
    have e1 : d'[j]! = d'.toList[j]'(by simpa using hj) := by rw [getElem!_pos d' j (by omega)]; simp
    have e2 : d'[i]! = d'.toList[i]'(by simpa using hi) := by rw [getElem!_pos d' i (by omega)]; simp
    rw [← e1, ← e2]
    exact h2
  · simp only [putCells, Array.getElem?_mapIdx, Array.getElem?_eq_getElem (show j < cur.size by omega), Option.map_some]
    rw [if_pos (by omega), Nat.sub_zero, getElem!_pos d' j (by omega), List.getElem?_eq_getElem (by simpa [hd's] using hj)]
    simp
  · unfold sortWorld grow
    show w.heap.size ≤ ((putRow vs (Sort.ahead w m) g 0 d').heap ++ os).size
    have e1 : (putRow vs (Sort.ahead w m) g 0 d').heap.size = w.heap.size := by simp [putRow, mapBlock, Sort.ahead]
    rw [Array.size_append]
    omega
def sliceA : Value → Option Addr
  | .slice A _ _ => A
  | _ => none
def sliceC : Value → Nat
  | .slice _ _ c => c
  | _ => 0
/-- The points, told by their headers. -/
theorem S_open {w : World} {base : Nat} {ok : Nat → Prop} {v : Value} {xs : List (List Int)} (h : Kd.S (Kd.slice 3 (Kd.int .i64)) 36 w base ok v xs) (hn : 0 < xs.length) :
    ∃ (f : Nat → Nat) (g cap : Nat) (cur : Array Value) (vs : Fin xs.length → Value), v = .slice (some ⟨g, 0, none⟩) xs.length cap ∧ base ≤ g ∧ w.heap[g]? = some (.cells cur 36 (0, 0)) ∧
      ∀ i : Fin xs.length, cur[i.val]? = some (vs i) ∧ (Kd.int .i64).R 3 w base (fun k => k ≠ g ∧ f k = i.val) (vs i) (xs.get i) := by
  obtain ⟨f, h0, inner, ⟨h1, hor⟩, h2, h3⟩ := h
  have hz : xs.zipIdx.length = xs.length := List.length_zipIdx
  rw [hz] at h1 hor
  rcases hor with ⟨_, e⟩ | ⟨g, cap, cur, rfl, hb, hg, hc, hm, hs, ht⟩
  · omega
  · have hit : ∀ i : Fin xs.length, ∃ u, cur[i.val]? = some u ∧ (Kd.int .i64).R 3 w base (fun k => k ≠ g ∧ f k = i.val) u (xs.get i) := by
      intro i
      have hj : xs.zipIdx[i.val]? = some (xs.get i, i.val) := Kd.zip_at (List.getElem?_eq_getElem i.isLt)
      obtain ⟨u, hu, hR⟩ := h3 i.val _ hj
      refine ⟨u, ?_, Kd.R_mono hR (fun k hk => ⟨fun e => hk.1.2 (by rw [e]; rfl), hk.2⟩)⟩
      have hu' : (inner.drop (i.val * 1)).take 1 = [u] := hu
      have ht' : cur.toList.take (xs.length * 1) = inner := ht
      have e := congrArg (fun l : List Value => l[0]?) hu'
      simp only [List.getElem?_take, List.getElem?_drop, Nat.mul_one, Nat.add_zero, if_pos Nat.one_pos, List.getElem?_cons_zero] at e
      rw [← ht', List.getElem?_take, Nat.mul_one, if_pos i.isLt, Array.getElem?_toList] at e
      exact e
    refine ⟨f, g, cap, cur, fun i => Classical.choose (hit i), rfl, hb, hg, fun i => Classical.choose_spec (hit i)⟩
theorem equal2 (a b : List Int) (ha : a.length = 2) (hb : b.length = 2) : slices_Equal_int_int.f 4 a b = some (decide (a = b)) := by
  obtain ⟨x, y, rfl⟩ := len2 ha
  obtain ⟨p, q, rfl⟩ := len2 hb
  have w1 : wrap64 (0 + 1) = 1 := by unfold wrap64; omega
  have w2 : wrap64 (1 + 1) = 2 := by unfold wrap64; omega
  have r0 : ∀ u v : Int, rd [u, v] 0 = u := fun _ _ => rfl
  have r1 : ∀ u v : Int, rd [u, v] 1 = v := fun _ _ => rfl
  unfold slices_Equal_int_int.f
  simp only [slices_Equal_int_int.l0, List.length_cons, List.length_nil, w1, w2, r0, r1]
  by_cases h1 : x = p
  · by_cases h3 : y = q
    · simp [h1, h3]
    · simp [h1, h3]
  · simp [h1]
/-- What is known of a row told by its header. -/
theorem R_head2 {w : World} {base : Nat} {ok : Nat → Prop} {v : Value} {l : List Int} (h : (Kd.int .i64).R 3 w base ok v l) :
    v = .slice (sliceA v) l.length (sliceC v) ∧ l.length ≤ sliceC v ∧ Kd.C (Kd.int .i64) w (sliceA v) l.length l ∧ (∀ ad, sliceA v = some ad → ok ad.block ∧ ad.block < w.heap.size ∧ v.ownBlock = some ad.block) := by
  obtain ⟨A, c, rfl, hl, hC⟩ := Kd.R_reads h
  refine ⟨rfl, hl, hC, fun ad e => ?_⟩
  have e' : A = some ad := e
  subst e'
  obtain ⟨b, rfl⟩ := Kd.R_head h
  have ho : (Value.slice (some ⟨b, 0, none⟩) l.length c).ownBlock = some b := rfl
  exact ⟨h.1 b ho, Kd.R_lt h b ho, ho⟩
theorem eq_call (A : Option Addr) (c : Nat) (l : List Int) (A1 : Option Addr) (c1 : Nat) (l1 : List Int) (W : World) (h : Kd.C (Kd.int .i64) W A 2 l) (hc : 2 ≤ c) (hl : l.length = 2) (h1 : Kd.C (Kd.int .i64) W A1 2 l1) (hc1 : 2 ≤ c1) (hl1 : l1.length = 2) (r : Bool) (hr : r = decide (l = l1)) :
    Calls Tryd.prog 26 #[.slice A 2 c, .slice A1 2 c1] W fun e w' => e = .returned (.bool r) ∧ Drawn0 W w' := by
  have h2 := slices_Equal_int_int.calls 4 A c l A1 c1 l1 _ W (by rw [hl]; exact h) (by omega) (by rw [hl1]; exact h1) (by omega) (equal2 l l1 hl hl1)
  rw [hl, hl1] at h2
  rw [hr]
  exact h2
/-- Which places of the sorted points are told: the second of each run. -/
def pickB (L : List (List Int)) (j : Nat) : Bool := decide (0 < j ∧ L.getD j [] = L.getD (j - 1) [] ∧ (j < 2 ∨ L.getD j [] ≠ L.getD (j - 2) []))
def pickJ (L : List (List Int)) (i : Nat) : List Nat := (List.range i).filter (pickB L)
theorem pickJ_succ (L : List (List Int)) (i : Nat) : pickJ L (i + 1) = if pickB L i = true then pickJ L i ++ [i] else pickJ L i := by
  unfold pickJ
  rw [List.range_succ, List.filter_append]
  by_cases h : pickB L i = true
  · rw [if_pos h, List.filter_cons_of_pos h]; rfl
  · rw [if_neg h, List.filter_cons_of_neg h, List.filter_nil, List.append_nil]
theorem pickJ_len (L : List (List Int)) (i : Nat) : (pickJ L i).length ≤ i := by
  unfold pickJ
  exact Nat.le_trans (List.length_filter_le _ _) (by simp)
theorem nodup_at {α : Type} {l : List α} (h : l.Nodup) {i j : Nat} {x : α} (h1 : l[i]? = some x) (h2 : l[j]? = some x) : i = j := by
  have hp := List.pairwise_iff_getElem.1 h
  obtain ⟨l1, e1⟩ := List.getElem?_eq_some_iff.1 h1
  obtain ⟨l2, e2⟩ := List.getElem?_eq_some_iff.1 h2
  rcases Nat.lt_trichotomy i j with hlt | heq | hlt
  · exact absurd (e1.trans e2.symm) (hp i j l1 l2 hlt)
  · exact heq
  · exact absurd (e2.trans e1.symm) (hp j i l2 l1 hlt)
/-- The picked rows, told as rows of the call's own, no two in one block. -/
theorem S_pick {w3 w4 wr : World} {b1 b : Nat} (hb : b ≤ b1) (hb4 : b ≤ w4.heap.size) {v : Value} {n : Nat} (g : Nat) (f : Nat → Nat) (vs : Fin n → Value) (ptsg : Fin n → List Int) (p : List (Fin n)) (js : List Nat) (hd : Nat → Value) (ls : Nat → List Int)
    (hR : (Kd.raw 1).R 36 wr w4.heap.size (fun _ => True) v (js.map fun j => [hd j])) (hvs : ∀ i, (Kd.int .i64).R 3 w3 b1 (fun k => k ≠ g ∧ f k = i.val) (vs i) (ptsg i))
    (hj : ∀ j ∈ js, ∃ i, p[j]? = some i ∧ hd j = vs i ∧ ls j = ptsg i) (hpn : p.Nodup) (hjn : js.Nodup) (h34 : w3.grownBy w4 (some g)) (h4r : Below w4.heap.size w4 wr) :
    Kd.S (Kd.slice 3 (Kd.int .i64)) 36 wr b (fun _ => True) v (js.map ls) := by
  have hbase := Kd.R_base hR
  have hinj : ∀ (m1 m2 : Nat) (j1 j2 : Nat) (i : Fin n), js[m1]? = some j1 → js[m2]? = some j2 → p[j1]? = some i → p[j2]? = some i → m1 = m2 := by
    intro m1 m2 j1 j2 i e1 e2 e3 e4
    have h1 : j1 = j2 := by
      exact nodup_at hpn e3 e4
    subst h1
    exact nodup_at hjn e1 e2
  have hf' : ∃ f' : Nat → Nat, ∀ (m j : Nat) (i : Fin n) (k : Nat), js[m]? = some j → p[j]? = some i → f k = i.val → f' k = m := by
    refine ⟨fun k => Classical.epsilon fun m => ∃ (j : Nat) (i : Fin n), js[m]? = some j ∧ p[j]? = some i ∧ f k = i.val, fun m j i k e1 e2 e3 => ?_⟩
    have hs := Classical.epsilon_spec (p := fun m => ∃ (j : Nat) (i : Fin n), js[m]? = some j ∧ p[j]? = some i ∧ f k = i.val) ⟨m, j, i, e1, e2, e3⟩
    obtain ⟨j', i', a1, a2, a3⟩ := hs
    have : i' = i := Fin.ext (by omega)
    subst this
    exact hinj _ _ _ _ _ a1 e1 a2 e2
  obtain ⟨f', hf'⟩ := hf'
  obtain ⟨h0, inner, hown, hlen, hcell⟩ := Kd.R_lower hR hb4
  have hz : ((js.map ls).zipIdx).length = js.length := by rw [List.length_zipIdx, List.length_map]
  refine ⟨f', fun _ _ => trivial, inner, ?_, ?_, ?_⟩
  · rw [hz]
    rw [List.length_map] at hown
    exact hown
  · rw [hz]
    rw [List.length_map] at hlen
    exact hlen
  · rintro m ⟨x, m'⟩ hm
    rw [List.getElem?_zipIdx, Nat.zero_add] at hm
    obtain ⟨x', hx', hxe⟩ := Option.map_eq_some_iff.1 hm
    injection hxe with hx1 hx2
    subst hx1; subst hx2
    rw [List.getElem?_map] at hx'
    obtain ⟨j, hjm, hlj⟩ := Option.map_eq_some_iff.1 hx'
    obtain ⟨i, hpi, hdi, hli⟩ := hj j (List.mem_of_getElem? hjm)
    have hc := hcell m [hd j] (by rw [List.getElem?_map, hjm]; rfl)
    obtain ⟨hc1, _, _⟩ := hc
    refine ⟨hd j, hc1, ?_⟩
    rw [← hlj, hli, hdi]
    have h1 := Kd.R_bound (hvs i)
    have h2 : (Kd.int .i64).R 3 wr b1 _ (vs i) (ptsg i) := Kd.R_step h1 (fun k hk hlt => (h4r.block k (Nat.lt_of_lt_of_le hlt h34.size)).trans (h34.block k hlt (fun e => hk.1.1 (by injection e))))
    refine Kd.R_mono (Kd.R_lower h2 hb) (fun k hk => ⟨⟨trivial, fun e => ?_⟩, hf' m j i k hjm hpi hk.1.2⟩)
    have := hbase k e.symm
    have := h34.size
    omega
/-- The points in their order. -/
def sortL (l : List (List Int)) : List (List Int) := l.mergeSort fun a b => !lt2 b a
theorem lt2_total (a b : List Int) (ha : a.length = 2) (hb : b.length = 2) (h1 : lt2 a b = false) (h2 : lt2 b a = false) : a = b := by
  obtain ⟨x, y, rfl⟩ := len2 ha
  obtain ⟨p, q, rfl⟩ := len2 hb
  have r0 : ∀ u v : Int, rd [u, v] 0 = u := fun _ _ => rfl
  have r1 : ∀ u v : Int, rd [u, v] 1 = v := fun _ _ => rfl
  unfold lt2 at h1 h2
  rw [r0, r0, r1, r1, decide_eq_false_iff_not] at h1 h2
  have e1 : x = p := by omega
  have e2 : y = q := by omega
  rw [e1, e2]
theorem sortL_eq (l L : List (List Int)) (hl : ∀ a ∈ l, a.length = 2) (hp : L.Perm l) (hs : L.Pairwise (fun a b => lt2 b a = false)) : L = sortL l := by
  have hm : (sortL l).Perm l := List.mergeSort_perm _ _
  have hs2 : (sortL l).Pairwise (fun a b => lt2 b a = false) := by
    have := List.pairwise_mergeSort (le := fun a b => !lt2 b a) (fun a b c h1 h2 => by simp [lt2] at *; omega) (fun a b => by simp [lt2]; omega) l
    refine this.imp ?_
    intro a b h
    simpa using h
  refine List.Perm.eq_of_pairwise (fun a b ha hb h1 h2 => ?_) hs hs2 (hp.trans hm.symm)
  exact (lt2_total a b (hl a (hp.mem_iff.1 ha)) (hl b (hm.mem_iff.1 hb)) h2 h1)
set_option maxHeartbeats 1000000 in
set_option maxRecDepth 100000 in
theorem cp_walk (k : Nat) (gr : Int) (s : ByteArray) (pts : List (List Int)) (z1 z2 z3 : Int) (w : World) (hq : impl_isWord.f gr s = some true) (hp : impl_walk.f k gr s 0 0 0 = some (pts, z1, z2, z3)) (hn : 0 < pts.length) (hm : pts.length ≤ 1000) (hl : ∀ l ∈ pts, l.length = 2) :
    Calls Tryd.prog 11 #[.int .i64 gr, .string s] w fun e w' => ∃ v0_ : Value, e = .returned (.tuple #[v0_, .bool true]) ∧ Kd.S (Kd.slice 3 (Kd.int .i64)) 36 w' w.heap.size (fun _ => True) v0_ ((pickJ (sortL pts) pts.length).map fun j => (sortL pts).getD j []) ∧ Below w.heap.size w w' := by
  have HQ := Aside0.mk hq
  have HP := Aside0.mk hp
  have HNM := Aside0.mk (show 0 < pts.length ∧ pts.length ≤ 1000 from ⟨hn, hm⟩)
  have HL := Aside0.mk hl
  clear hq hp hn hm hl
  go_enter Tryd.func11, Tryd.ntmps11
  go_wp2_with fail
  refine (impl_isWord.calls gr s true _ HQ.out).mono ?_
  rintro e w1 ⟨rfl, hb⟩
  have HB := Aside0.mk hb
  clear hb
  go_wp2_with fail
  refine (impl_walk.calls k gr s 0 0 0 pts z1 z2 z3 _ HP.out).mono ?_
  rintro e w2 ⟨v2, rfl, hS, hb⟩
  have HB2 := Aside0.mk (below_step HB.out hb)
  have HW1 := Aside0.mk (show w.heap.size ≤ w1.heap.size from HB.out.size)
  obtain ⟨f, g, cap, cur, vs, rfl, hbg, hg, hrow⟩ := S_open hS HNM.out.1
  have HROW := Aside0.mk hrow
  have HG := Aside0.mk hg
  have HBG := Aside0.mk hbg
  clear hb HB hS hrow hg hbg
  obtain ⟨n, hn⟩ : ∃ n, n = pts.length := ⟨_, rfl⟩
  subst hn
  have hr3 : ∀ i : Fin pts.length, (Kd.int .i64).R 3 (w2.alloc (.cells #[.int .i64 z1, .int .i64 z2, .int .i64 z3] 40)) w1.heap.size (fun k => k ≠ g ∧ f k = i.val) (vs i) (pts.get i) := fun i => Kd.R_alloc (HROW.out i).2 _
  have HR3 := Aside0.mk hr3
  have hsort := sort_walk g cap pts.length HNM.out.1 cur vs (fun i => sliceA (vs i)) (fun i => sliceC (vs i)) (fun i => pts.get i) (w2.alloc (.cells #[.int .i64 z1, .int .i64 z2, .int .i64 z3] 40)) (blk_alloc HG.out _) (fun i => (HROW.out i).1)
    (fun i => (R_head2 (hr3 i)).1) (fun i => (R_head2 (hr3 i)).2.1) (fun i => HL.out _ (List.get_mem _ _)) (fun i => (R_head2 (hr3 i)).2.2.1) (fun i ad e => ⟨((R_head2 (hr3 i)).2.2.2 ad e).1.1, ((R_head2 (hr3 i)).2.2.2 ad e).2.1⟩) (by have := HNM.out.2; omega)
  have HSORT := Aside0.mk hsort
  have HB3 := Aside0.mk (below_alloc HB2.out (.cells #[.int .i64 z1, .int .i64 z2, .int .i64 z3] 40))
  have HG3 := Aside0.mk (blk_alloc HG.out (.cells #[.int .i64 z1, .int .i64 z2, .int .i64 z3] 40))
  clear hsort hr3 HB2
  go_wp2_with fail
  obtain ⟨w3, hw3⟩ : ∃ w3, w2.alloc (.cells #[.int .i64 z1, .int .i64 z2, .int .i64 z3] 40) = w3 := ⟨_, rfl⟩
  rw [hw3] at HSORT HB3 HR3 HG3 ⊢
  clear hw3
  refine HSORT.out.mono ?_
  rintro e w4 ⟨rfl, p, cur', hperm, hpw, hg4, hcs4, hc4, hgr4⟩
  obtain ⟨L, hL⟩ : ∃ L, L = p.map (fun i => pts.get i) := ⟨_, rfl⟩
  have hpl : p.length = pts.length := by rw [hperm.length_eq]; simp
  have hLl : L.length = pts.length := by rw [hL, List.length_map, hpl]
  have hLp : L.Perm pts := by
    have h1 := hperm.map (fun i : Fin pts.length => pts.get i)
    have h2 : (List.finRange pts.length).map (fun i => pts.get i) = pts := by
      apply List.ext_getElem
      · simp
      · intro i h1 h2
        simp
    rw [h2] at h1
    rw [hL]
    exact h1
  have hrow4 : ∀ j, j < pts.length → ∃ A c, cur'[j]? = some (.slice A (L.getD j []).length c) ∧ (L.getD j []).length ≤ c ∧ Kd.C (Kd.int .i64) w4 A (L.getD j []).length (L.getD j []) ∧ (L.getD j []).length = 2 ∧ ∀ ad, A = some ad → ad.block < w4.heap.size := by
    intro j hj
    have hj2 : j < p.length := by omega
    obtain ⟨i, hi⟩ : ∃ i, p[j]? = some i := ⟨_, List.getElem?_eq_getElem hj2⟩
    have e1 : L.getD j [] = pts.get i := by
      rw [hL, List.getD_eq_getElem?_getD, List.getElem?_map, hi]
      rfl
    obtain ⟨q1, q2, q3, q4⟩ := R_head2 (HR3.out i)
    refine ⟨sliceA (vs i), sliceC (vs i), ?_, ?_, ?_, ?_, ?_⟩
    · rw [hc4 j hj, hi, e1]
      exact congrArg some q1
    · rw [e1]; exact q2
    · rw [e1]; exact C_move q3 (fun ad ha => hgr4.block _ (q4 ad ha).2.1 (fun e => (q4 ad ha).1.1 (by injection e)))
    · rw [e1]; exact HL.out _ (List.get_mem _ _)
    · exact fun ad ha => Nat.lt_of_lt_of_le (q4 ad ha).2.1 hgr4.size
  have HROW4 := Aside0.mk hrow4
  have HPERM := Aside0.mk (show p.Perm (List.finRange pts.length) ∧ p.length = pts.length ∧ L = p.map (fun i => pts.get i) ∧ L.length = pts.length ∧ L.Perm pts ∧ L.Pairwise (fun a b => lt2 b a = false) from ⟨hperm, hpl, hL, hLl, hLp, by rw [hL]; exact hpw⟩)
  have HG4 := Aside0.mk hg4
  have HC4 := Aside0.mk hc4
  have HGR4 := Aside0.mk hgr4
  have HB4 := Aside0.mk (show Below w.heap.size w w4 from HB3.out.grown hgr4 HB3.out.size (fun j hj => by cases hj; exact Nat.le_trans HW1.out HBG.out))
  clear hperm hpl hL hLl hLp hpw hg4 hc4 hgr4 hrow4 hcs4
  have HOUT := Aside0.mk (show (Kd.raw 1).R 36 (w4.alloc (.cells #[] 36)) w4.heap.size (fun _ => True) (.slice (some ⟨w4.heap.size, 0, none⟩) 0 0) ((pickJ L 0).map fun j => [(cur'[j]?).getD undef]) from
    ⟨fun _ _ => trivial, [], ⟨rfl, .inr ⟨w4.heap.size, 0, #[], rfl, Nat.le_refl _, (MapKept.heap_alloc w4 _).1, Nat.le_refl _, Nat.zero_le _, rfl, rfl⟩⟩, Reps.none _ _⟩)
  have HBL := Aside0.mk (below_alloc (Below.refl w4.heap.size w4) (.cells #[] 36))
  go_wp2_with fail
  go_loopg [8, 28] pts.length (fun gg v8 v28 wr => ∃ i : Nat, v28 = .int .i64 (i : Int) ∧ i ≤ pts.length ∧ pts.length - i ≤ gg ∧ Aside0 ((Kd.raw 1).R 36 wr w4.heap.size (fun _ => True) v8 ((pickJ L i).map fun j => [(cur'[j]?).getD undef])) ∧ Aside0 (Below w4.heap.size w4 wr))
  case atStart => exact ⟨0, rfl, Nat.zero_le _, by omega, HOUT, HBL⟩
  case round =>
    clear HOUT HBL
    obtain ⟨i, rfl, hi, hgi, HOUT, HBL⟩ := hrel
    have hN1000 := HNM.out.2
    by_cases hlt : i < pts.length
    · obtain ⟨A, c, hcu, hlc, hC, hl2, hAd⟩ := HROW4.out i hlt
      rw [hl2] at hcu hlc hC
      have hcell : wr.cell? ⟨g, i, none⟩ = some (.slice A 2 c) := by rw [blk_cell ((HBL.out.block g (blk_lt HG4.out)).trans HG4.out) i]; exact hcu
      have HCI := Aside0.mk (Kd.C_below hC HBL.out)
      have HHI := Aside0.mk (show (cur'[i]?).getD undef = .slice A 2 c by rw [hcu]; rfl)
      have HLI := Aside0.mk (show (L.getD i []).length = 2 ∧ 2 ≤ c from ⟨hl2, hlc⟩)
      clear hC hcu hl2 hlc hAd
      match i with
      | 0 =>
        have hpk : pickB L 0 = false := by unfold pickB; simp
        have HPK := Aside0.mk hpk
        clear hpk
        go_wp2_with fail
        go_roundg (pts.length - 1)
        case measure => omega
        case rel => exact ⟨1, by go_num, by omega, Nat.le_refl _, ⟨by rw [pickJ_succ, HPK.out]; exact HOUT.out⟩, HBL⟩
      | j + 1 =>
        obtain ⟨A1, c1, hcu, hlc, hC, hl2, hAd⟩ := HROW4.out j (by omega)
        rw [hl2] at hcu hlc hC
        have hcell1 : wr.cell? ⟨g, j, none⟩ = some (.slice A1 2 c1) := by rw [blk_cell ((HBL.out.block g (blk_lt HG4.out)).trans HG4.out) j]; exact hcu
        have HC1 := Aside0.mk (Kd.C_below hC HBL.out)
        have HL1 := Aside0.mk (show (L.getD j []).length = 2 ∧ 2 ≤ c1 from ⟨hl2, hlc⟩)
        clear hC hcu hl2 hlc hAd
        have hjn : j < pts.length := by omega
        have q1 : wrap64 ((j : Nat) : Int) = (j : Int) := by have := HNM.out.2; unfold wrap64; omega
        obtain ⟨r1, hr1⟩ : ∃ r, r = decide (L.getD (j + 1) [] = L.getD j []) := ⟨_, rfl⟩
        have HR1 := Aside0.mk hr1
        clear hr1
        have HEQ1 := Aside0.mk (eq_call A c _ A1 c1 _ wr HCI.out HLI.out.2 HLI.out.1 HC1.out HL1.out.2 HL1.out.1 r1 HR1.out)
        go_wp2_with fail
        refine HEQ1.out.mono ?_
        rintro e w5 ⟨rfl, hd⟩
        have HD := Aside0.mk hd.below
        clear hd
        clear q1
        cases r1 with
        | false =>
          have HPK := Aside0.mk (show pickB L (j + 1) = false by
            unfold pickB
            have h := HR1.out.symm
            rw [decide_eq_false_iff_not] at h
            rw [decide_eq_false_iff_not]
            exact fun h2 => h h2.2.1)
          have HOUT5 := Aside0.mk (Kd.R_below HOUT.out HD.out)
          have HBL5 := Aside0.mk (below_step HBL.out HD.out)
          go_wp2_with fail
          go_roundg (pts.length - (j + 1 + 1))
          case measure => omega
          case rel => exact ⟨j + 1 + 1, by go_num, by omega, Nat.le_refl _, ⟨by rw [pickJ_succ, HPK.out]; exact HOUT5.out⟩, HBL5⟩
        | true =>
          have HOUT5 := Aside0.mk (Kd.R_below HOUT.out HD.out)
          have HBL5 := Aside0.mk (below_step HBL.out HD.out)
          match j with
          | 0 =>
            have HPK := Aside0.mk (show pickB L (0 + 1) = true by
              unfold pickB
              have h := HR1.out.symm
              rw [decide_eq_true_iff] at h
              rw [decide_eq_true_iff]
              exact ⟨by omega, h, .inl (by omega)⟩)
            go_wp2_with (first | ((with_reducible refine gate_dst (N := 62) rfl ?_); refine Kd.R_append (Kd.raw 1) (w0 := w4) w4.heap.size rfl (.tmp 59) (.tmp 61) 25 36 (.slice none 0 0) 24 rfl Tryd.underlying25 info36 rfl (by decide) (by omega) _ _ [.slice A 2 c] [.slice A 2 c] (fun _ => True) (fun _ => False) rfl rfl ⟨rfl, rfl, fun u hu => by rw [List.mem_singleton.1 hu]; rfl⟩ (fun _ h => h.elim) (fun _ _ => trivial) HOUT5.out HBL5.out HBL5.out.size (by rw [List.length_map]; have := pickJ_len L (0 + 1); omega) ?_; intro v1 w6 hr6 hb6 hg6 hat6; have HR6 := Aside0.mk hr6; have HB6 := Aside0.mk hb6; clear hr6 hb6 hg6 hat6))
            go_roundg (pts.length - (0 + 1 + 1))
            case measure => omega
            case rel => exact ⟨0 + 1 + 1, by go_num, by omega, Nat.le_refl _, ⟨by rw [pickJ_succ, HPK.out, if_pos rfl, List.map_append, List.map_singleton, HHI.out]; exact HR6.out⟩, HB6⟩
          | j2 + 1 =>
            obtain ⟨A2, c2, hcu, hlc, hC, hl2, hAd⟩ := HROW4.out j2 (by omega)
            rw [hl2] at hcu hlc hC
            have hcell2 : w5.cell? ⟨g, j2, none⟩ = some (.slice A2 2 c2) := by rw [blk_cell ((HBL5.out.block g (blk_lt HG4.out)).trans HG4.out) j2]; exact hcu
            have HC2 := Aside0.mk (Kd.C_below hC HBL5.out)
            have HCI5 := Aside0.mk (Kd.C_below HCI.out HD.out)
            have HL2 := Aside0.mk (show (L.getD j2 []).length = 2 ∧ 2 ≤ c2 from ⟨hl2, hlc⟩)
            clear hC hcu hl2 hlc hAd
            have hjn2 : j2 < pts.length := by omega
            have q2 : wrap64 (((j2 + 1 + 1 : Nat) : Int) - 2) = (j2 : Int) := by unfold wrap64; omega
            have q3 : wrap64 ((j2 : Int) + 1 + 1 - 2) = (j2 : Int) := by unfold wrap64; omega
            have q4 : ((j2 : Int) + 1 + 1 < 2) = False := eq_false (by omega)
            obtain ⟨r2, hr2⟩ : ∃ r, r = decide (L.getD (j2 + 1 + 1) [] = L.getD j2 []) := ⟨_, rfl⟩
            have HR2 := Aside0.mk hr2
            clear hr2
            have HEQ2 := Aside0.mk (eq_call A c _ A2 c2 _ w5 HCI5.out HLI.out.2 HLI.out.1 HC2.out HL2.out.2 HL2.out.1 r2 HR2.out)
            go_wp2_with fail
            refine HEQ2.out.mono ?_
            rintro e w7 ⟨rfl, hd⟩
            have HD7 := Aside0.mk hd.below
            clear hd
            clear q2 q3 q4
            have HOUT7 := Aside0.mk (Kd.R_below HOUT5.out HD7.out)
            have HBL7 := Aside0.mk (below_step HBL5.out HD7.out)
            cases r2 with
            | true =>
              have HPK := Aside0.mk (show pickB L (j2 + 1 + 1) = false by
                unfold pickB
                have h := HR2.out.symm
                rw [decide_eq_true_iff] at h
                rw [decide_eq_false_iff_not]
                rintro ⟨_, _, h3 | h3⟩
                · omega
                · exact h3 h)
              go_wp2_with fail
              go_roundg (pts.length - (j2 + 1 + 1 + 1))
              case measure => omega
              case rel => exact ⟨j2 + 1 + 1 + 1, by go_num, by omega, Nat.le_refl _, ⟨by rw [pickJ_succ, HPK.out]; exact HOUT7.out⟩, HBL7⟩
            | false =>
              have HPK := Aside0.mk (show pickB L (j2 + 1 + 1) = true by
                unfold pickB
                have h := HR2.out.symm
                have h1 := HR1.out.symm
                rw [decide_eq_false_iff_not] at h
                rw [decide_eq_true_iff] at h1
                rw [decide_eq_true_iff]
                exact ⟨by omega, h1, .inr h⟩)
              go_wp2_with (first | ((with_reducible refine gate_dst (N := 62) rfl ?_); refine Kd.R_append (Kd.raw 1) (w0 := w4) w4.heap.size rfl (.tmp 59) (.tmp 61) 25 36 (.slice none 0 0) 24 rfl Tryd.underlying25 info36 rfl (by decide) (by omega) _ _ [.slice A 2 c] [.slice A 2 c] (fun _ => True) (fun _ => False) rfl rfl ⟨rfl, rfl, fun u hu => by rw [List.mem_singleton.1 hu]; rfl⟩ (fun _ h => h.elim) (fun _ _ => trivial) HOUT7.out HBL7.out HBL7.out.size (by rw [List.length_map]; have := pickJ_len L (j2 + 1 + 1); omega) ?_; intro v1 w6 hr6 hb6 hg6 hat6; have HR6 := Aside0.mk hr6; have HB6 := Aside0.mk hb6; clear hr6 hb6 hg6 hat6))
              go_roundg (pts.length - (j2 + 1 + 1 + 1))
              case measure => omega
              case rel => exact ⟨j2 + 1 + 1 + 1, by go_num, by omega, Nat.le_refl _, ⟨by rw [pickJ_succ, HPK.out, if_pos rfl, List.map_append, List.map_singleton, HHI.out]; exact HR6.out⟩, HB6⟩
    · obtain rfl : i = pts.length := by omega
      have HFIN := Aside0.mk (show ∀ v, (Kd.raw 1).R 36 wr w4.heap.size (fun _ => True) v ((pickJ L pts.length).map fun j => [(cur'[j]?).getD undef]) → Kd.S (Kd.slice 3 (Kd.int .i64)) 36 wr w.heap.size (fun _ => True) v ((pickJ (sortL pts) pts.length).map fun j => (sortL pts).getD j []) from fun v hv => by
        obtain ⟨hperm, hpl, hLe, hLl, hLp, hpw⟩ := HPERM.out
        rw [← sortL_eq pts L HL.out hLp hpw]
        refine S_pick HW1.out (HB4.out.size) g f vs (fun i => pts.get i) p (pickJ L pts.length) _ _ hv HR3.out (fun j hj => ?_) (hperm.symm.nodup (List.nodup_finRange _)) (List.Pairwise.filter _ List.nodup_range) HGR4.out HBL.out
        have hjn : j < pts.length := by have := (List.mem_filter.1 hj).1; simpa using this
        have hj2 : j < p.length := by omega
        refine ⟨p[j], List.getElem?_eq_getElem hj2, ?_, ?_⟩
        · rw [HC4.out j hjn, List.getElem?_eq_getElem hj2]; rfl
        · rw [hLe, List.getD_eq_getElem?_getD, List.getElem?_map, List.getElem?_eq_getElem hj2]; rfl)
      have HBF := Aside0.mk (show Below w.heap.size w wr from ⟨HBL.out.os.trans HB4.out.os, HBL.out.tape.trans HB4.out.tape, HBL.out.output.trans HB4.out.output, Nat.le_trans HB4.out.size HBL.out.size, fun k hk => (HBL.out.block k (Nat.lt_of_lt_of_le hk HB4.out.size)).trans (HB4.out.block k hk)⟩)
      go_wp2_with fail
      go_ret2
      exact ⟨_, rfl, HFIN.out _ HOUT.out, HBF.out⟩
set_option maxHeartbeats 1000000 in
set_option maxRecDepth 100000 in
theorem cp_no (gr : Int) (s : ByteArray) (w : World) (hq : impl_isWord.f gr s = some false) :
    Calls Tryd.prog 11 #[.int .i64 gr, .string s] w fun e w' => ∃ v0_ : Value, e = .returned (.tuple #[v0_, .bool false]) ∧ Kd.S (Kd.slice 3 (Kd.int .i64)) 36 w' w.heap.size (fun _ => True) v0_ [] ∧ Below w.heap.size w w' := by
  have HQ := Aside0.mk hq
  clear hq
  go_enter Tryd.func11, Tryd.ntmps11
  go_wp2_with fail
  refine (impl_isWord.calls gr s false _ HQ.out).mono ?_
  rintro e w1 ⟨rfl, hb⟩
  have HB := Aside0.mk hb
  clear hb
  go_wp2_with fail
  go_ret2
  exact ⟨_, rfl, Kd.S_nil _ _ _ _ _, HB.out⟩
/-- The points that come twice or more, in their order, each once. -/
def pickL (pts : List (List Int)) : List (List Int) := (pickJ (sortL pts) pts.length).map fun j => (sortL pts).getD j []
def impl_CrossedPoints.f (k : Nat) (a0 : Int) (a1 : ByteArray) : Option (List (List Int) × Bool) := (impl_isWord.f a0 a1).bind fun q => if q = true then ((impl_walk.f k a0 a1 0 0 0).bind fun r => if (0 < r.1.length ∧ r.1.length ≤ 1000) ∧ r.1.all (fun l => decide (l.length = 2)) = true then some (pickL r.1, true) else none) else some ([], false)
theorem impl_CrossedPoints.mono : ∀ a0 a1 k, LeO (impl_CrossedPoints.f k a0 a1) (impl_CrossedPoints.f (k + 1) a0 a1) := by
  intro a0 a1 k
  unfold impl_CrossedPoints.f
  refine LeO.bind (LeO.refl _) (fun q => ?_)
  by_cases hq : q = true
  · rw [if_pos hq, if_pos hq]
    exact LeO.bind (impl_walk.mono _ _ _ _ _ _) (fun _ => LeO.refl _)
  · rw [if_neg hq, if_neg hq]
    exact LeO.refl _
theorem impl_CrossedPoints.calls (k : Nat) (a0 : Int) (a1 : ByteArray) (r1 : List (List Int)) (r2 : Bool) (w : World) (h : impl_CrossedPoints.f k a0 a1 = some (r1, r2)) :
    Calls Tryd.prog 11 #[.int .i64 a0, .string a1] w fun e w' => ∃ v0_ : Value, e = .returned (.tuple #[v0_, .bool r2]) ∧ Kd.S (Kd.slice 3 (Kd.int .i64)) 36 w' w.heap.size (fun _ => True) v0_ r1 ∧ Below w.heap.size w w' := by
  unfold impl_CrossedPoints.f at h
  obtain ⟨q, hq, h⟩ := Option.bind_eq_some_iff.1 h
  cases q with
  | true =>
    rw [if_pos rfl] at h
    obtain ⟨⟨pts, z1, z2, z3⟩, hp, h⟩ := Option.bind_eq_some_iff.1 h
    by_cases hs : (0 < pts.length ∧ pts.length ≤ 1000) ∧ pts.all (fun l => decide (l.length = 2)) = true
    · rw [if_pos hs] at h
      cases Option.some.inj h
      exact cp_walk k a0 a1 pts z1 z2 z3 w hq hp hs.1.1 hs.1.2 (fun l hl => by have := List.all_eq_true.1 hs.2 l hl; simpa using this)
    · rw [if_neg hs] at h
      cases h
  | false =>
    rw [if_neg (by decide)] at h
    cases Option.some.inj h
    exact cp_no a0 a1 w hq

/-! ### laws_FnExactCrossedPoints: function 5 (given by hand) -/
def laws_FnExactCrossedPoints.f (k : Nat) (a0 : Int) (a1 : ByteArray) : Option Bool :=
  if a1.size ≤ 1048576 then (spec_CrossedPoints.f k a0 a1).bind fun bw => (impl_CrossedPoints.f k a0 a1).bind fun bg =>
    (laws_eqIntSS.f k bg.1 bw.1).bind fun e1 => (laws_markIntSS.f k bg.1 1).bind fun mm => (laws_heldIntSS.f k mm.2 1).bind fun hq =>
      if e1 = true ∧ bg.2 = bw.2 ∧ 0 ≤ hq ∧ hq = mm.1 then some true else none
  else some true
set_option maxHeartbeats 1000000 in
set_option maxRecDepth 100000 in
theorem crossed_law_walk (a0 : Int) (a1 : ByteArray) (lw lg : List (List Int)) (b : Bool) (mm : Int) (mml : List (List Int)) (k : Nat) (w : World) (hmm : ¬ mm < 0) (hsz : a1.size ≤ 1048576)
    (HSP : Aside0 (spec_CrossedPoints.f k a0 a1 = some (lw, b))) (HIM : Aside0 (impl_CrossedPoints.f k a0 a1 = some (lg, b))) (HEQ : Aside0 (laws_eqIntSS.f k lg lw = some true))
    (HMM : Aside0 (laws_markIntSS.f k lg 1 = some (mm, mml))) (HHE : Aside0 (laws_heldIntSS.f k mml 1 = some mm)) :
    Calls Tryd.prog 5 #[.int .i64 a0, .string a1] w fun e w' => e = .returned (.bool true) ∧ Below w.heap.size w w' := by
  have hz0 : ¬ (a1.size : Int) > 1048576 := by omega
  have hz1 : decide ((a1.size : Int) > 1048576) = false := decide_eq_false hz0
  have hz2 : ¬ (1048576 : Int) < (a1.size : Int) := by omega
  go_enter Tryd.func5, Tryd.ntmps5
  -- spec
  go_wp2_with fail
  refine (spec_CrossedPoints.calls k a0 a1 lw b _ HSP.out).mono ?_
  rintro e w3 ⟨v0, rfl, hW, b3⟩
  have B3 := Aside0.mk b3
  have HW := Aside0.mk hW
  clear hW b3
  -- impl
  go_wp2_with fail
  refine (impl_CrossedPoints.calls k a0 a1 lg b _ HIM.out).mono ?_
  rintro e w5 ⟨vg, rfl, hG, b5⟩
  have D5 := Aside0.mk b5
  have B5 := Aside0.mk (below_step B3.out b5)
  obtain ⟨Ag, cg, rfl, hlg, hCg⟩ := Kd.S_reads hG
  obtain ⟨Aw, cw, rfl, hlw, _⟩ := Kd.N_reads HW.out
  have HG := Aside0.mk hG
  have CEQ := Aside0.mk (fun W (h1 : Kd.C (Kd.slice 3 (Kd.int .i64)) W Ag lg.length lg) (h2 : Kd.C (Kd.slice 3 (Kd.int .i64)) W Aw lw.length lw) => laws_eqIntSS.calls k Ag cg lg Aw cw lw true W h1 hlg h2 hlw HEQ.out)
  have readW := Aside0.mk (fun W (hb : Below w3.heap.size w3 W) => (Kd.N_reads' (Kd.N_below HW.out hb)).2.2)
  clear hG hCg b5
  -- eqIntSS
  go_wp2_with fail
  refine (CEQ.out _ (Kd.S_reads' HG.out).2.2 (readW.out _ D5.out)).mono ?_
  rintro e w6 ⟨rfl, hd6⟩
  have D6 := Aside0.mk (below_step D5.out hd6.below)
  have B6 := Aside0.mk (below_step B5.out hd6.below)
  have HG6 := Aside0.mk (Kd.S_below HG.out hd6.below)
  have HG7 := Aside0.mk (show Kd.S (Kd.slice 3 (Kd.int .i64)) 36 w6 w3.heap.size (fun k_ => w3.heap.size ≤ k_) (.slice Ag lg.length cg) lg from Kd.S_mono (Kd.S_bound HG6.out) (fun q hq => hq.2.1))
  have CMM := Aside0.mk (laws_markIntSS.calls k (fun k_ => w3.heap.size ≤ k_) (.slice Ag lg.length cg) lg 1 mm mml w3 w6 D6.out HG7.out HMM.out)
  clear hd6
  -- markIntSS
  go_wp2_with fail
  refine CMM.out.mono ?_
  rintro e w11 ⟨rfl, hM, b11, _⟩
  have D11 := Aside0.mk b11
  have B11 := Aside0.mk (below_step B3.out b11)
  have HM := Aside0.mk hM
  obtain ⟨hml1, hml2, hCm⟩ := Kd.S_reads' hM
  have hle : mml.length ≤ cg := by rw [← hml1]; exact hml2
  have hCHE : ∀ W, Kd.C (Kd.slice 3 (Kd.int .i64)) W Ag mml.length mml → Calls Tryd.prog 14 #[.slice Ag lg.length cg, .int .i64 1] W (fun e w' => e = .returned (.int .i64 mm) ∧ Drawn0 W w') := by
    intro W h1
    rw [hml1]
    exact laws_heldIntSS.calls k Ag cg mml 1 mm W h1 hle HHE.out
  have CHE := Aside0.mk hCHE
  clear hCHE hle hml1 hml2 hM hCm b11
  -- heldIntSS
  go_wp2_with fail
  refine (CHE.out _ (Kd.S_reads' HM.out).2.2).mono ?_
  rintro e w12 ⟨rfl, hd12⟩
  have D12 := Aside0.mk (below_step D11.out hd12.below)
  have B12 := Aside0.mk (below_step B11.out hd12.below)
  have E12 := Aside0.mk hd12.below
  clear hd12
  -- impl again
  go_wp2_with fail
  refine (impl_CrossedPoints.calls k a0 a1 lg b _ HIM.out).mono ?_
  rintro e w14 ⟨vh, rfl, hH, b14⟩
  have D14 := Aside0.mk (below_step D12.out b14)
  have B14 := Aside0.mk (below_step B12.out b14)
  have E14 := Aside0.mk (below_step E12.out b14)
  obtain ⟨Ah, ch, rfl, hlh, hCh⟩ := Kd.S_reads hH
  have CEQ2 := Aside0.mk (fun W (hW : W = w14) (h2 : Kd.C (Kd.slice 3 (Kd.int .i64)) W Aw lw.length lw) => laws_eqIntSS.calls k Ah ch lg Aw cw lw true W (hW ▸ hCh) hlh h2 hlw HEQ.out)
  clear hH hCh b14 CEQ
  go_wp2_with fail
  refine (CEQ2.out _ rfl (readW.out _ D14.out)).mono ?_
  rintro e w15 ⟨rfl, hd15⟩
  have B15 := Aside0.mk (below_step B14.out hd15.below)
  have E15 := Aside0.mk (below_step E14.out hd15.below)
  clear hd15
  go_wp2_with fail
  refine (CHE.out _ (Kd.S_reads' (Kd.S_below HM.out E15.out)).2.2).mono ?_
  rintro e w16 ⟨rfl, hd16⟩
  have B16 := Aside0.mk (below_step B15.out hd16.below)
  clear hd16
  go_wp2_with fail
  go_ret
  exact ⟨rfl, B16.out⟩
theorem laws_FnExactCrossedPoints.calls (k : Nat) (a0 : Int) (a1 : ByteArray) (r : Bool) (w : World) (h : laws_FnExactCrossedPoints.f k a0 a1 = some r) :
    Calls Tryd.prog 5 #[.int .i64 a0, .string a1] w fun e w' => e = .returned (.bool r) ∧ Below w.heap.size w w' := by
  unfold laws_FnExactCrossedPoints.f at h
  split at h
  · rename_i hsz
    obtain ⟨⟨lw, bw⟩, hsp, h3⟩ := Option.bind_eq_some_iff.mp h
    obtain ⟨⟨lg, bg⟩, him, h4⟩ := Option.bind_eq_some_iff.mp h3
    obtain ⟨e1, heq, h5⟩ := Option.bind_eq_some_iff.mp h4
    obtain ⟨⟨mm, mml⟩, hmm, h8⟩ := Option.bind_eq_some_iff.mp h5
    obtain ⟨hq, hhe, h9⟩ := Option.bind_eq_some_iff.mp h8
    clear h h3 h4 h5 h8
    split at h9
    · rename_i hc
      obtain ⟨q1, q2, q5, q6⟩ := hc
      simp only at q1 q2 q5 q6
      subst q1; subst q2; subst q6
      obtain rfl := Option.some.inj h9
      exact crossed_law_walk a0 a1 lw lg bg hq mml k w (by omega) hsz ⟨hsp⟩ ⟨him⟩ ⟨heq⟩ ⟨hmm⟩ ⟨hhe⟩
    · cases h9
  · rename_i hsz
    obtain rfl := Option.some.inj h
    have hz0 : (a1.size : Int) > 1048576 := by omega
    have hz1 : decide ((a1.size : Int) > 1048576) = true := decide_eq_true hz0
    have hz2 : (1048576 : Int) < (a1.size : Int) := by omega
    clear hsz h
    go_enter Tryd.func5, Tryd.ntmps5
    go_wp2_with fail
    go_ret
    exact ⟨rfl, Below.refl _ _⟩


end Go.Proofs.YtlnjfbnabjgffaaDoor.X
